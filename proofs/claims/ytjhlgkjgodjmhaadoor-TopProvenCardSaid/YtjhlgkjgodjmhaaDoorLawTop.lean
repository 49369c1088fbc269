/- The law TopProven. Condition: the package-level variables read as listed. -/
import Derived.Test.YtjhlgkjgodjmhaaDoorTopKnown
import Derived.Test.YtjhlgkjgodjmhaaDoorDropOne
import Derived.Test.YtjhlgkjgodjmhaaDoorBatchVerify
import Derived.Test.YtjhlgkjgodjmhaaDoorBatchPath
namespace Go.Proofs.YtjhlgkjgodjmhaaDoor
open Go.ChangeShapes Go.WideShapes Go.ChangeAt Go.RowKit
set_option linter.unusedVariables false
theorem treesB_take (L : List ByteArray) (n : Nat) (l : List (Int × Int)) (hl : SpansIn l n) (hn : n ≤ L.length) : treesB (L.take n) l = treesB L l := by
  unfold treesB
  refine List.map_congr_left fun s hs => ?_
  have := hl s hs
  have h := treeB_more (L.take n) (L.drop n) s.1 s.2 this.1 (by omega) (by rw [List.length_take]; omega)
  rw [List.take_append_drop] at h
  exact h.symm
theorem treeB_take (L : List ByteArray) (n : Nat) (b e : Int) (h0 : 0 ≤ b) (h1 : b ≤ e) (h2 : e ≤ (n : Int)) (hn : n ≤ L.length) : treeB (L.take n) b e = treeB L b e := by
  have h := treeB_more (L.take n) (L.drop n) b e h0 h1 (by rw [List.length_take]; omega)
  rw [List.take_append_drop] at h
  exact h.symm
theorem leavesB_take (L : List ByteArray) (n i t : Nat) (hit : i ≤ t) (htn : t ≤ n) (hn : n ≤ L.length) : leavesB (L.take n) i (t - i) = leavesB L i (t - i) := by
  unfold leavesB
  rw [List.drop_take, List.take_take, Nat.min_eq_left (by omega)]
theorem leafG_take (L : List ByteArray) (n i : Nat) (hi : i < n) : leafG (L.take n) (i : Int) = leafG L (i : Int) := by
  unfold leafG
  rw [Int.toNat_natCast, List.getD_eq_getElem?_getD, List.getD_eq_getElem?_getD, List.getElem?_take_of_lt hi]
theorem t_path_len (ix n : Nat) (h : 0 < n) (hn : n ≤ 400) : (pathL 64 ix 0 n).length ≤ 65 ∧ ((pathL 64 ix 0 n).length : Int) ≤ lgI n + 1 := by
  have h1 := pathL_log 64 ix 0 n (by omega) (by rw [pow2_64]; omega)
  rw [Int.sub_zero] at h1
  have h2 := lgI_bd (n := (n : Int)) (by omega)
  omega
theorem t_proof_len (m n : Nat) (h0 : 0 < m) (h : m ≤ n) (hn : n ≤ 400) : (proofL 64 m 0 n).length ≤ 65 ∧ ((proofL 64 m 0 n).length : Int) ≤ lgI n + 1 := by
  have h1 := proofL_log 64 m 0 n (by omega) (by omega) (by rw [pow2_64]; omega)
  rw [Int.sub_zero] at h1
  have h2 := lgI_bd (n := (n : Int)) (by omega)
  omega
theorem t_incl (a : Nat → Addr) (B : Nat) (L : List ByteArray) (n i k c : Nat) (A : Option Addr) (w : World) (hE : Env B a w) (hn : n ≤ L.length) (h4 : L.length ≤ 400) (hi : i < n) (hp : HIn w A k c (treesB L (pathL 64 i 0 n))) :
    Calls Tryd.prog 13 #[.int .u64 i, .int .u64 n, hv (leafG L (i : Int)), .slice A k c, hv (treeB L 0 n)] w fun e w' => e = .returned .nilIface ∧ Below w.heap.size w w' := by
  have hs := logs_says (L.take n) n i (by rw [List.length_take]; omega) (by omega) hi
  rw [leafG_take L n i hi, treeB_take L n 0 n (by omega) (by omega) (by omega) hn, treesB_take L n _ (path_spansIn i n (by omega) (by omega) (by omega)) hn] at hs
  have hk : k = (pathL 64 i 0 n).length := by have := hp.2.1; rw [treesB_len] at this; exact this.symm
  have := (t_path_len i n (by omega) (by omega)).1
  exact vincl_ok a B i n _ _ _ A k c w hE (leafH_length _) (treeB_len _ _ _) hp hi (by omega) hs (by omega)
theorem t_cons (a : Nat → Addr) (B : Nat) (L : List ByteArray) (n m k c : Nat) (A : Option Addr) (w : World) (hE : Env B a w) (h4 : n ≤ 400) (h1 : 1 ≤ m) (hm : m ≤ n) (hp : HIn w A k c (treesB L (proofL 64 m 0 n))) :
    Calls Tryd.prog 14 #[.int .u64 m, .int .u64 n, hv (treeB L 0 m), hv (treeB L 0 n), .slice A k c] w fun e w' => e = .returned .nilIface ∧ Below w.heap.size w w' := by
  have hk : k = (proofL 64 m 0 n).length := by have := hp.2.1; rw [treesB_len] at this; exact this.symm
  have hl := (t_proof_len m n (by omega) hm h4).1
  by_cases e : m = n
  · subst e
    have he : treesB L (proofL 64 m 0 m) = [] := by rw [proofL_end, if_neg (by omega)]; rfl
    exact vcons_same a B m m _ _ A k c _ w hE (treeB_len _ _ _) (treeB_len _ _ _) hp rfl (by omega) (by omega) he rfl
  · obtain ⟨kk, nn, h, rest, q1, q2, q3, q4, q5, q6⟩ := logs_cons L m n (by omega) (by omega) (by omega)
    exact vcons_ok a B m n _ _ A k c _ w hE (treeB_len _ _ _) (treeB_len _ _ _) hp q1 q2 (by omega) (by omega) q3 q4 q5 q6 (by omega)
theorem t_bK (L : List ByteArray) (n i t : Nat) (hn : n ≤ L.length) (h4 : L.length ≤ 400) (hit : i < t) (ht : t ≤ n) :
    batchK i n (leavesB L i (t - i)).length (treesB L (batchL 64 i t 0 n)).length = 0 ∧ rootB i n (leavesB L i (t - i)) (treesB L (batchL 64 i t 0 n)) = treeB L 0 n ∧
      ∀ ix : Int, (i : Int) ≤ ix → ix < t → pathB i n (leavesB L i (t - i)) (treesB L (batchL 64 i t 0 n)) ix = treesB L (pathL 64 ix 0 n) := by
  have hl : (L.take n).length = n := by rw [List.length_take]; omega
  have e1 : ((i : Int) + ((t - i : Nat) : Int)) = t := by omega
  have hb := batch_spansIn i t n (by omega) (by omega) (by omega) (by omega)
  have k1 := logs_K (L.take n) i (t - i) n hl (by omega) (by omega) (by omega)
  have k2 := logs_root (L.take n) i (t - i) n hl (by omega) (by omega) (by omega)
  have k3 := fun ix h1 h2 => logs_path (L.take n) i (t - i) n ix hl (by omega) (by omega) h1 h2
  rw [e1] at k1 k2 k3
  rw [treesB_take L n _ hb hn] at k1 k2 k3
  rw [leavesB_take L n i t (by omega) ht hn] at k2 k3
  rw [treeB_take L n 0 n (by omega) (by omega) (by omega) hn] at k2
  refine ⟨by rw [leavesB_len L i (t - i) (by omega)]; exact k1, k2, fun ix h1 h2 => ?_⟩
  rw [k3 ix h1 (by omega), treesB_take L n _ (path_spansIn ix n (by omega) (by omega) (by omega)) hn]
theorem t_bver (a : Nat → Addr) (B : Nat) (L : List ByteArray) (n i t k c1 c2 : Nat) (A1 A2 : Option Addr) (w : World) (hE : Env B a w) (hn : n ≤ L.length) (h4 : L.length ≤ 400) (hit : i < t) (ht : t ≤ n) (h1 : HIn w A1 (t - i) c1 (leavesB L i (t - i))) (h2 : HIn w A2 k c2 (treesB L (batchL 64 i t 0 n))) :
    Calls Tryd.prog 15 #[.int .u64 i, .int .u64 n, .slice A1 (t - i) c1, .slice A2 k c2, hv (treeB L 0 n)] w fun e w' => e = .returned .nilIface ∧ Below w.heap.size w w' := by
  have hb := t_bK L n i t hn h4 hit ht
  obtain ⟨LV, hLV⟩ : ∃ z, leavesB L i (t - i) = z := ⟨_, rfl⟩
  obtain ⟨PV, hPV⟩ : ∃ z, treesB L (batchL 64 i t 0 n) = z := ⟨_, rfl⟩
  rw [hLV] at h1 hb
  rw [hPV] at h2 hb
  obtain ⟨s, hs⟩ : ∃ s, t - i = s := ⟨_, rfl⟩
  rw [hs] at h1 ⊢
  have e1 := h1.2.1
  have e2 := h2.2.1
  rw [← e1] at h1
  rw [← e2] at h2
  have := verify_ok a B i n A1 A2 c1 c2 _ _ (treeB L 0 n) (treeB_len _ _ _) w hE h1 h2 (by omega) (by omega) (by omega) (by omega) hb.1
  rw [if_pos hb.2.1, e1, e2] at this
  exact this
theorem t_bpath (a : Nat → Addr) (B : Nat) (L : List ByteArray) (n i t k c1 c2 : Nat) (ix : Int) (A1 A2 : Option Addr) (w : World) (hE : Env B a w) (hn : n ≤ L.length) (h4 : L.length ≤ 400) (hit : i < t) (ht : t ≤ n) (hx : (i : Int) ≤ ix) (hx2 : ix < t) (h1 : HIn w A1 (t - i) c1 (leavesB L i (t - i))) (h2 : HIn w A2 k c2 (treesB L (batchL 64 i t 0 n))) :
    Calls Tryd.prog 16 #[.int .u64 i, .int .u64 n, .slice A1 (t - i) c1, .slice A2 k c2, .int .u64 ix] w (HashesPost w (treesB L (pathL 64 ix 0 n))) := by
  have hb := t_bK L n i t hn h4 hit ht
  obtain ⟨LV, hLV⟩ : ∃ z, leavesB L i (t - i) = z := ⟨_, rfl⟩
  obtain ⟨PV, hPV⟩ : ∃ z, treesB L (batchL 64 i t 0 n) = z := ⟨_, rfl⟩
  rw [hLV] at h1 hb
  rw [hPV] at h2 hb
  obtain ⟨s, hs⟩ : ∃ s, t - i = s := ⟨_, rfl⟩
  rw [hs] at h1 ⊢
  have e1 := h1.2.1
  have e2 := h2.2.1
  rw [← e1] at h1
  rw [← e2] at h2
  have := bpath_ok a B i n ix A1 A2 c1 c2 _ _ w hE h1 h2 (by omega) (by omega) (by omega) (by omega) hb.1 hx (by rw [e1]; omega)
  rw [hb.2.2 ix hx hx2, e1, e2] at this
  exact this
/-- what the law asks of the sizes -/
theorem top_nums {N : Nat} {xi xo xe xs : Int} (hN : 0 < N) (hN4 : N ≤ 400) (i0 : 0 ≤ xi) (o0 : 0 ≤ xo) (e0 : 0 ≤ xe) (s0 : 0 ≤ xs) : ∃ n i m t : Nat, IntKind.u64.wrap (1 + xs.tmod (N : Int)) = (n : Int) ∧ xi.tmod (n : Int) = (i : Int) ∧ IntKind.u64.wrap (1 + xo.tmod (n : Int)) = (m : Int) ∧ IntKind.u64.wrap ((i : Int) + 1 + xe.tmod ((n : Int) - i)) = (t : Int) ∧ 1 ≤ n ∧ n ≤ N ∧ i < n ∧ 1 ≤ m ∧ m ≤ n ∧ i < t ∧ t ≤ n := by
  rw [Int.tmod_eq_emod_of_nonneg s0]
  simp only [Int.tmod_eq_emod_of_nonneg i0, Int.tmod_eq_emod_of_nonneg o0, Int.tmod_eq_emod_of_nonneg e0]
  have a1 := Int.emod_nonneg xs (show (N : Int) ≠ 0 by omega)
  have a2 := Int.emod_lt_of_pos xs (show (0 : Int) < N by omega)
  obtain ⟨n, hn⟩ : ∃ n : Nat, 1 + xs % (N : Int) = n := ⟨(1 + xs % (N : Int)).toNat, by omega⟩
  have b1 := Int.emod_nonneg xi (show (n : Int) ≠ 0 by omega)
  have b2 := Int.emod_lt_of_pos xi (show (0 : Int) < n by omega)
  obtain ⟨i, hi⟩ : ∃ i : Nat, xi % (n : Int) = i := ⟨(xi % (n : Int)).toNat, by omega⟩
  have c1 := Int.emod_nonneg xo (show (n : Int) ≠ 0 by omega)
  have c2 := Int.emod_lt_of_pos xo (show (0 : Int) < n by omega)
  obtain ⟨m, hm⟩ : ∃ m : Nat, 1 + xo % (n : Int) = m := ⟨(1 + xo % (n : Int)).toNat, by omega⟩
  have d1 := Int.emod_nonneg xe (show (n : Int) - i ≠ 0 by omega)
  have d2 := Int.emod_lt_of_pos xe (show (0 : Int) < (n : Int) - i by omega)
  obtain ⟨t, ht⟩ : ∃ t : Nat, (i : Int) + 1 + xe % ((n : Int) - i) = t := ⟨((i : Int) + 1 + xe % ((n : Int) - i)).toNat, by omega⟩
  exact ⟨n, i, m, t, by rw [hn]; exact IntWalk.u64_in _ (by omega), hi, by rw [hm]; exact IntWalk.u64_in _ (by omega), by rw [ht]; exact IntWalk.u64_in _ (by omega), by omega, by omega, by omega, by omega, by omega, by omega, by omega⟩
set_option maxRecDepth 100000 in
set_option maxHeartbeats 8000000 in
theorem top_any (a : Nat → Addr) (B : Nat) (D : List ByteArray) (A : Option Addr) (n0 c0 : Nat) (xi xo xe xs : Int) (w : World) (hE : Env B a w) (h : SIn w A n0 c0 D) (hn : n0 ≤ 9000000000000000000) (i0 : 0 ≤ xi) (i9 : xi < 18446744073709551616) (o0 : 0 ≤ xo) (o9 : xo < 18446744073709551616) (e0 : 0 ≤ xe) (e9 : xe < 18446744073709551616) (s0 : 0 ≤ xs) (s9 : xs < 18446744073709551616) :
    Calls Tryd.prog 3 #[.agg #[.slice A n0 c0, .int .u64 xi, .int .u64 xo, .int .u64 xe, .int .u64 xs]] w fun ev w' => ev = .returned (.bool true) ∧ Below w.heap.size w w' := by
  have HE := Lib.hid hE
  have HS := Lib.hid h
  have hwb : w.heap.size < (w.alloc (.cells #[.slice A n0 c0, .int .u64 xi, .int .u64 xo, .int .u64 xe, .int .u64 xs] 25)).heap.size := by simp
  have q0 : (w.alloc (.cells #[.slice A n0 c0, .int .u64 xi, .int .u64 xo, .int .u64 xe, .int .u64 xs] 25)).cell? ⟨w.heap.size, 0, none⟩ = some (.slice A n0 c0) := cell_new _ _ 0 _ rfl
  have q1 : (w.alloc (.cells #[.slice A n0 c0, .int .u64 xi, .int .u64 xo, .int .u64 xe, .int .u64 xs] 25)).cell? ⟨w.heap.size, 1, none⟩ = some (.int .u64 xi) := cell_new _ _ 1 _ rfl
  have q2 : (w.alloc (.cells #[.slice A n0 c0, .int .u64 xi, .int .u64 xo, .int .u64 xe, .int .u64 xs] 25)).cell? ⟨w.heap.size, 2, none⟩ = some (.int .u64 xo) := cell_new _ _ 2 _ rfl
  have q3 : (w.alloc (.cells #[.slice A n0 c0, .int .u64 xi, .int .u64 xo, .int .u64 xe, .int .u64 xs] 25)).cell? ⟨w.heap.size, 3, none⟩ = some (.int .u64 xe) := cell_new _ _ 3 _ rfl
  have q4 : (w.alloc (.cells #[.slice A n0 c0, .int .u64 xi, .int .u64 xo, .int .u64 xe, .int .u64 xs] 25)).cell? ⟨w.heap.size, 4, none⟩ = some (.int .u64 xs) := cell_new _ _ 4 _ rfl
  have gb : Gr w (w.alloc (.cells #[.slice A n0 c0, .int .u64 xi, .int .u64 xo, .int .u64 xe, .int .u64 xs] 25)) := (Gr.refl _).alloc _
  obtain ⟨wb, hwb'⟩ : ∃ wb, (w.alloc (.cells #[.slice A n0 c0, .int .u64 xi, .int .u64 xo, .int .u64 xe, .int .u64 xs] 25)) = wb := ⟨_, rfl⟩
  rw [hwb'] at hwb q0 q1 q2 q3 q4 gb
  have gb : Below w.heap.size w wb := gb
  have HWB := Lib.hid hwb'
  have hbx : (Tryd.prog.info? 25).map (·.size) = some 5 := by kernel_rfl
  have HEB : Hid (Env B a wb) := Lib.hid (HE.out.step gb)
  have HSB : Hid (SIn wb A n0 c0 D) := Lib.hid (HS.out.below gb)
  have HN := Lib.hid hn
  have HXX := Lib.hid (And.intro (And.intro i0 i9) (And.intro (And.intro o0 o9) (And.intro (And.intro e0 e9) (And.intro s0 s9))))
  clear hwb' hE h hn i9 o9 e9 s9
  go_enter Tryd.func3, Tryd.ntmps3
  go_upto_region 1 with fail
  rw [HWB.out]
  go_wp2_with fail
  refine (toplog_any a B D A n0 c0 wb HEB.out HSB.out HN.out).mono ?_
  rintro ev w1 ⟨b, v, L, rfl, hL1, hl4, b1⟩
  have HL1 := Lib.hid hL1
  have HE1 : Hid (Env B a w1) := Lib.hid (HEB.out.step b1)
  obtain ⟨N, hN⟩ : ∃ N, L.length = N := ⟨_, rfl⟩
  have HLN := Lib.hid hN
  have HSZ : Hid (∀ w', Gr w1 w' → Calls Tryd.prog 5 #[.pointer (some ⟨b, 0, none⟩)] w' fun e w2 => e = .returned (.int .u64 N) ∧ w' = w2) := Lib.hid (fun w' h => by rw [← HLN.out]; exact lsize_any _ b v L w' (HL1.out.below h))
  rw [hN] at hl4
  clear hL1 hN
  have d1 := cell_below (show Gr wb w1 from (by repeat (first | exact Gr.refl _ | (refine Gr.step ?_ (by assumption)) | (refine Gr.alloc ?_ _) | (refine Gr.drew ?_)))) q1 hwb
  have d2 := cell_below (show Gr wb w1 from (by repeat (first | exact Gr.refl _ | (refine Gr.step ?_ (by assumption)) | (refine Gr.alloc ?_ _) | (refine Gr.drew ?_)))) q2 hwb
  have d3 := cell_below (show Gr wb w1 from (by repeat (first | exact Gr.refl _ | (refine Gr.step ?_ (by assumption)) | (refine Gr.alloc ?_ _) | (refine Gr.drew ?_)))) q3 hwb
  have d4 := cell_below (show Gr wb w1 from (by repeat (first | exact Gr.refl _ | (refine Gr.step ?_ (by assumption)) | (refine Gr.alloc ?_ _) | (refine Gr.drew ?_)))) q4 hwb
  have hw1 : w.heap.size < w1.heap.size := by have := b1.size; omega
  by_cases hz : N = 0
  · have hz1 : ((N : Int) == 0) = true := by simp [hz]
    clear hz
    go_wp2_with (go_at_call 5; refine (HSZ.out _ (Gr.refl _)).mono ?_; rintro e w' ⟨rfl, rfl⟩)
    refine (known_any a B w1 HE1.out).mono ?_
    rintro ev w2 ⟨rfl, b2⟩
    go_wp2_with fail
    go_ret
    exact ⟨rfl, show Gr w _ from (by repeat (first | exact Gr.refl _ | (refine Gr.step ?_ (by assumption)) | (refine Gr.alloc ?_ _) | (refine Gr.drew ?_)))⟩
  · have hz1 : ((N : Int) == 0) = false := by simp; omega
    have hz2 : (N : Int) ≠ 0 := by omega
    have hz3 : (0 : Int) < N := by omega
    obtain ⟨n, i, m, t, en, ei, em, et, f1, f2, f3, f4, f5, f6, f7⟩ := top_nums (N := N) (by omega) hl4 i0 o0 e0 s0
    have HNUM := Lib.hid (And.intro f1 (And.intro f2 (And.intro f3 (And.intro f4 (And.intro f5 (And.intro f6 f7))))))
    have HL4 := Lib.hid hl4
    have k1 : (n : Int) ≠ 0 := by omega
    have k2 : (n : Int) - i ≠ 0 := by omega
    have k3 : (i : Int) ≤ n := by omega
    have k4 : IntKind.u64.wrap ((i : Int) + 1) = (i : Int) + 1 := IntWalk.u64_in _ (by omega)
    have k5 : IntKind.u64.wrap ((n : Int) - i) = (n : Int) - i := IntWalk.u64_in _ (by omega)
    have k6 : n ≠ 0 := by omega
    have k7 : (0 : Int) < n := by omega
    have k8 : (0 : Int) < (n : Int) - i := by omega
    clear f1 f2 f3 f4 f5 f6 f7 hl4 hz i0 o0 e0 s0
    go_wp2_with (go_at_call 5; refine (HSZ.out _ (Gr.refl _)).mono ?_; rintro e w' ⟨rfl, rfl⟩)
    go_quiet ((go_at_call 5; exact Calls.quiet_of_same ((HSZ.out _ (show Gr w1 _ from below_drewN (Below.refl _ _))).mono (fun _ _ q => ⟨q.1, q.2.symm⟩))))
    go_upto_region 8 with fail
    obtain ⟨w2, hw2⟩ : ∃ x, w1.drewN nq = x := ⟨_, rfl⟩
    have b2 : Below w1.heap.size w1 w2 := by rw [← hw2]; exact below_drewN (Below.refl _ _)
    rw [hw2]
    clear hw2 d1 d2 d3 d4 hw1 en ei em et k1 k2 k4 k5 k6 k7 k8 hz1 hz2 hz3
    have HNL : Hid (n ≤ L.length ∧ L.length ≤ 400) := Lib.hid (by have := HNUM.out; have := HL4.out; have := HLN.out; omega)
    have CHS : Hid (∀ w', Gr w1 w' → Calls Tryd.prog 7 #[.pointer (some ⟨b, 0, none⟩)] w' fun ev w2 => ∃ A c, ev = .returned (.slice A N c) ∧ HIn w2 A N c (leavesB L 0 N) ∧ Below w'.heap.size w' w2) := Lib.hid (fun w' h => by
      refine (tophashes_any a B _ b v L w' (HE1.out.step h) (HL1.out.below h)).mono ?_
      rintro ev w2 ⟨A, c, rfl, ho, hb⟩
      rw [HLN.out] at ho
      rw [HLN.out]
      exact ⟨A, c, rfl, own_hin ho (leavesB_h32 _ _ _) (leavesB_len L 0 N (by have := HLN.out; omega)), hb⟩)
    obtain ⟨vn, evn, Hvn, Zvn, Ivn, Ovn⟩ := row_of (treeB L 0 n) (treeB_len _ _ _)
    obtain ⟨vm, evm, Hvm, Zvm, Ivm, Ovm⟩ := row_of (treeB L 0 m) (treeB_len _ _ _)
    have CRN : Hid (∀ w', Gr w1 w' → Calls Tryd.prog 8 #[.pointer (some ⟨b, 0, none⟩), .int .u64 n] w' fun ev w2 => ev = .returned (.tuple #[.agg vn, .nilIface]) ∧ Below w'.heap.size w' w2) := Lib.hid (fun w' h => by
      rw [← evn]; exact lroot_ok a B _ b v L n w' (HE1.out.step h) (HL1.out.below h) (by omega) (by have := HNL.out; omega))
    have CRM : Hid (∀ w', Gr w1 w' → Calls Tryd.prog 8 #[.pointer (some ⟨b, 0, none⟩), .int .u64 m] w' fun ev w2 => ev = .returned (.tuple #[.agg vm, .nilIface]) ∧ Below w'.heap.size w' w2) := Lib.hid (fun w' h => by
      rw [← evm]; exact lroot_ok a B _ b v L m w' (HE1.out.step h) (HL1.out.below h) (by omega) (by have := HNL.out; have := HNUM.out; omega))
    have CPA : Hid (∀ (x : Int) w', 0 ≤ x → x < n → Gr w1 w' → Calls Tryd.prog 9 #[.pointer (some ⟨b, 0, none⟩), .int .u64 x, .int .u64 n] w' (HashesPost w' (treesB L (pathL 64 x 0 n)))) := Lib.hid (fun x w' q1 q2 h =>
      lpath_ok a B _ b v L x n w' (HE1.out.step h) (HL1.out.below h) q1 q2 (by have := HNL.out; omega))
    have CPR : Hid (∀ w', Gr w1 w' → Calls Tryd.prog 10 #[.pointer (some ⟨b, 0, none⟩), .int .u64 m, .int .u64 n] w' (HashesPost w' (treesB L (proofL 64 m 0 n)))) := Lib.hid (fun w' h =>
      lproof_ok a B _ b v L m n w' (HE1.out.step h) (HL1.out.below h) (by have := HNUM.out; omega) (by have := HNUM.out; omega) (by have := HNL.out; omega))
    have CBA : Hid (∀ w', Gr w1 w' → Calls Tryd.prog 11 #[.pointer (some ⟨b, 0, none⟩), .int .u64 i, .int .u64 t, .int .u64 n] w' (HashesPost w' (treesB L (batchL 64 i t 0 n)))) := Lib.hid (fun w' h =>
      lbatch_ok a B _ b v L i t n w' (HE1.out.step h) (HL1.out.below h) (by omega) (by have := HNUM.out; omega) (by have := HNUM.out; omega) (by have := HNL.out; omega))
    have EVN := Lib.hid (And.intro evn evm)
    clear evn evm
    go_wp2_with fail
    refine (CHS.out w2 (show Gr w1 w2 from (by repeat (first | exact Gr.refl _ | (refine Gr.step ?_ (by assumption)) | (refine Gr.alloc ?_ _) | (refine Gr.drew ?_))))).mono ?_
    rintro ev w3 ⟨A8, c8, rfl, h8, b3⟩
    have H8 := Lib.hid h8
    clear h8
    go_wp2_with fail
    refine (CRN.out w3 (show Gr w1 w3 from (by repeat (first | exact Gr.refl _ | (refine Gr.step ?_ (by assumption)) | (refine Gr.alloc ?_ _) | (refine Gr.drew ?_))))).mono ?_
    rintro ev w4 ⟨rfl, b4⟩
    go_upto_region 10 with (refine wpList_store_row_any rfl 33 _ _ rfl w4.heap.size vn rfl rfl 33 _ (heap_at _ _ _ rfl) Ivn.out (by rw [Zvn.out]; rfl) Ovn.out ?_; intro w5 hbN hgN hsN; have b5 : Below w4.heap.size w4 w5 := ((Below.refl _ w4).alloc (Nat.le_refl _) _).trans (hbN.to_below (by simp) (fun k hk q => by omega)); have Rw5 := Lib.hid hgN; clear hbN hgN hsN)
    go_wp2_with fail
    refine (CRM.out w5 (show Gr w1 w5 from (by repeat (first | exact Gr.refl _ | (refine Gr.step ?_ (by assumption)) | (refine Gr.alloc ?_ _) | (refine Gr.drew ?_))))).mono ?_
    rintro ev w6 ⟨rfl, b6⟩
    go_upto_region 11 with (refine wpList_store_row_any rfl 33 _ _ rfl w6.heap.size vm rfl rfl 33 _ (heap_at _ _ _ rfl) Ivm.out (by rw [Zvm.out]; rfl) Ovm.out ?_; intro w7 hbN hgN hsN; have b7 : Below w6.heap.size w6 w7 := ((Below.refl _ w6).alloc (Nat.le_refl _) _).trans (hbN.to_below (by simp) (fun k hk q => by omega)); have Rw7 := Lib.hid hgN; clear hbN hgN hsN)
    go_wp2_with fail
    refine (CPA.out i w7 (by omega) (by have := HNUM.out; omega) (show Gr w1 w7 from (by repeat (first | exact Gr.refl _ | (refine Gr.step ?_ (by assumption)) | (refine Gr.alloc ?_ _) | (refine Gr.drew ?_))))).mono ?_
    rintro ev w8 ⟨hp32, vv, rfl, ho, b8⟩
    (try unfold Gr at b8)
    obtain ⟨A13, c13, rfl, hc0⟩ := own_shape ho
    have hin := own_hin ho hp32 rfl
    revert hin
    generalize hq : List.length (treesB L _) = npa
    intro hin
    have Hpa := Lib.hid hin
    clear hin hq ho hp32 hc0
    go_wp2_with fail
    refine (CPR.out w8 (show Gr w1 w8 from (by repeat (first | exact Gr.refl _ | (refine Gr.step ?_ (by assumption)) | (refine Gr.alloc ?_ _) | (refine Gr.drew ?_))))).mono ?_
    rintro ev w9 ⟨hp32, vv, rfl, ho, b9⟩
    (try unfold Gr at b9)
    obtain ⟨A15, c15, rfl, hc0⟩ := own_shape ho
    have hin := own_hin ho hp32 rfl
    revert hin
    generalize hq : List.length (treesB L _) = npr
    intro hin
    have Hpr := Lib.hid hin
    clear hin hq ho hp32 hc0
    go_wp2_with fail
    refine (CBA.out w9 (show Gr w1 w9 from (by repeat (first | exact Gr.refl _ | (refine Gr.step ?_ (by assumption)) | (refine Gr.alloc ?_ _) | (refine Gr.drew ?_))))).mono ?_
    rintro ev w10 ⟨hp32, vv, rfl, ho, b10⟩
    (try unfold Gr at b10)
    obtain ⟨A17, c17, rfl, hc0⟩ := own_shape ho
    have hin := own_hin ho hp32 rfl
    revert hin
    generalize hq : List.length (treesB L _) = nba
    intro hin
    have Hba := Lib.hid hin
    clear hin hq ho hp32 hc0
    have HFEW : Hid ((∀ w c A, Calls Tryd.prog 12 #[.slice A npa c, .int .u64 n] w fun ev w' => ev = .returned (.bool true) ∧ Below w.heap.size w w') ∧ (∀ w c A, Calls Tryd.prog 12 #[.slice A npr c, .int .u64 n] w fun ev w' => ev = .returned (.bool true) ∧ Below w.heap.size w w')) := Lib.hid (by
      have h1 := Hpa.out.2.1
      have h2 := Hpr.out.2.1
      rw [treesB_len] at h1 h2
      have hh := HNUM.out
      have hl := HNL.out
      exact ⟨fun w c A => few_any A npa c n w (by omega) (by omega) (by rw [← h1]; exact (t_path_len i n (by omega) (by omega)).2), fun w c A => few_any A npr c n w (by omega) (by omega) (by rw [← h2]; exact (t_proof_len m n (by omega) (by omega) (by omega)).2)⟩)
    go_wp2_with fail
    refine (HFEW.out.1 w10 c13 A13).mono ?_
    rintro ev w11 ⟨rfl, b11⟩
    go_wp2_with fail
    refine (HFEW.out.2 w11 c15 A15).mono ?_
    rintro ev w12 ⟨rfl, b12⟩
    go_upto_region 16 with fail
    obtain ⟨vi, evi, Hvi, Zvi, Ivi, Ovi⟩ := row_of (leafG L (i : Int)) (leafH_length _)
    have hat : (leavesB L 0 N)[i]? = some (leafG L (i : Int)) := by
      have := leavesB_at L 0 N i (by have := HLN.out; omega) (by have := HNUM.out; omega)
      rwa [Nat.zero_add] at this
    have HA : Hid (HIn w12 A8 N c8 (leavesB L 0 N)) := Lib.hid (H8.out.below (show Gr w3 w12 from (by repeat (first | exact Gr.refl _ | (refine Gr.step ?_ (by assumption)) | (refine Gr.alloc ?_ _) | (refine Gr.drew ?_)))))
    obtain ⟨g, o, rfl, gl, rp, pl⟩ := HA.out.row hat
    obtain ⟨pp, hpp⟩ : ∃ q, bytesV (leafG L (i : Int)) = q := ⟨_, rfl⟩
    have EPP : Hid (pp.toArray = vi) := Lib.hid (by rw [← hpp]; exact Hvi.out)
    have IPP : Hid ((Tryd.prog.info? 33).map (·.size) = some pp.length) := Lib.hid (by rw [← hpp, bytesV_length, pl]; kernel_rfl)
    have KPP : Hid (∀ w', Gr w12 w' → w'.rangeAt g (o + i * 32) pp) := Lib.hid (fun w' h => by rw [← hpp]; exact rangeAt_below h rp gl)
    have K9 : Hid (∀ w', Gr w12 w' → w'.heap[w4.heap.size]? = some (.cells vn 33 (0, 0))) := Lib.hid (fun w' h => by
      have h5 := (Below.block (show Gr w5 w12 from (by repeat (first | exact Gr.refl _ | (refine Gr.step ?_ (by assumption)) | (refine Gr.alloc ?_ _) | (refine Gr.drew ?_)))) _ (Array.getElem?_eq_some_iff.1 Rw5.out).1).trans Rw5.out
      exact (h.block _ (Array.getElem?_eq_some_iff.1 h5).1).trans h5)
    have K11 : Hid (∀ w', Gr w12 w' → w'.heap[w6.heap.size]? = some (.cells vm 33 (0, 0))) := Lib.hid (fun w' h => by
      have h5 := (Below.block (show Gr w7 w12 from (by repeat (first | exact Gr.refl _ | (refine Gr.step ?_ (by assumption)) | (refine Gr.alloc ?_ _) | (refine Gr.drew ?_)))) _ (Array.getElem?_eq_some_iff.1 Rw7.out).1).trans Rw7.out
      exact (h.block _ (Array.getElem?_eq_some_iff.1 h5).1).trans h5)
    have HPA : Hid (HIn w12 A13 npa c13 (treesB L (pathL 64 i 0 n))) := Lib.hid (Hpa.out.below (show Gr w8 w12 from (by repeat (first | exact Gr.refl _ | (refine Gr.step ?_ (by assumption)) | (refine Gr.alloc ?_ _) | (refine Gr.drew ?_)))))
    have HPR : Hid (HIn w12 A15 npr c15 (treesB L (proofL 64 m 0 n))) := Lib.hid (Hpr.out.below (show Gr w9 w12 from (by repeat (first | exact Gr.refl _ | (refine Gr.step ?_ (by assumption)) | (refine Gr.alloc ?_ _) | (refine Gr.drew ?_)))))
    have HBA : Hid (HIn w12 A17 nba c17 (treesB L (batchL 64 i t 0 n))) := Lib.hid (Hba.out.below (show Gr w10 w12 from (by repeat (first | exact Gr.refl _ | (refine Gr.step ?_ (by assumption)) | (refine Gr.alloc ?_ _) | (refine Gr.drew ?_)))))
    have CIN : Hid (∀ w', Gr w12 w' → Calls Tryd.prog 13 #[.int .u64 i, .int .u64 n, .agg vi, .slice A13 npa c13, .agg vn] w' fun e w2 => e = .returned .nilIface ∧ Below w'.heap.size w' w2) := Lib.hid (fun w' h => by
      rw [← evi, ← EVN.out.1]
      exact t_incl a B L n i npa c13 A13 w' (HE1.out.step (Gr.step (show Gr w1 w12 from (by repeat (first | exact Gr.refl _ | (refine Gr.step ?_ (by assumption)) | (refine Gr.alloc ?_ _) | (refine Gr.drew ?_)))) h)) HNL.out.1 HNL.out.2 HNUM.out.2.2.1 (HPA.out.below h))
    have CCO : Hid (∀ w', Gr w12 w' → Calls Tryd.prog 14 #[.int .u64 m, .int .u64 n, .agg vm, .agg vn, .slice A15 npr c15] w' fun e w2 => e = .returned .nilIface ∧ Below w'.heap.size w' w2) := Lib.hid (fun w' h => by
      rw [← EVN.out.1, ← EVN.out.2]
      exact t_cons a B L n m npr c15 A15 w' (HE1.out.step (Gr.step (show Gr w1 w12 from (by repeat (first | exact Gr.refl _ | (refine Gr.step ?_ (by assumption)) | (refine Gr.alloc ?_ _) | (refine Gr.drew ?_)))) h)) (by have := HNL.out; omega) HNUM.out.2.2.2.1 HNUM.out.2.2.2.2.1 (HPR.out.below h))
    have CBV : Hid (∀ (A1 : Option Addr) (c1 : Nat) w', Gr w12 w' → HIn w' A1 (t - i) c1 (leavesB L i (t - i)) → Calls Tryd.prog 15 #[.int .u64 i, .int .u64 n, .slice A1 (t - i) c1, .slice A17 nba c17, .agg vn] w' fun e w2 => e = .returned .nilIface ∧ Below w'.heap.size w' w2) := Lib.hid (fun A1 c1 w' h q => by
      rw [← EVN.out.1]
      exact t_bver a B L n i t nba c1 c17 A1 A17 w' (HE1.out.step (Gr.step (show Gr w1 w12 from (by repeat (first | exact Gr.refl _ | (refine Gr.step ?_ (by assumption)) | (refine Gr.alloc ?_ _) | (refine Gr.drew ?_)))) h)) HNL.out.1 HNL.out.2 HNUM.out.2.2.2.2.2.1 HNUM.out.2.2.2.2.2.2 q (HBA.out.below h))
    have CBP : Hid (∀ (A1 : Option Addr) (c1 : Nat) (x : Int) w', (i : Int) ≤ x → x < t → Gr w12 w' → HIn w' A1 (t - i) c1 (leavesB L i (t - i)) → Calls Tryd.prog 16 #[.int .u64 i, .int .u64 n, .slice A1 (t - i) c1, .slice A17 nba c17, .int .u64 x] w' (HashesPost w' (treesB L (pathL 64 x 0 n)))) := Lib.hid (fun A1 c1 x w' x1 x2 h q =>
      t_bpath a B L n i t nba c1 c17 x A1 A17 w' (HE1.out.step (Gr.step (show Gr w1 w12 from (by repeat (first | exact Gr.refl _ | (refine Gr.step ?_ (by assumption)) | (refine Gr.alloc ?_ _) | (refine Gr.drew ?_)))) h)) HNL.out.1 HNL.out.2 HNUM.out.2.2.2.2.2.1 HNUM.out.2.2.2.2.2.2 x1 x2 q (HBA.out.below h))
    have HSUB : Hid (HIn w12 (some ⟨g, o + i * 32, none⟩) (t - i) (c8 - i) (leavesB L i (t - i))) := Lib.hid (by
      have hh := HNUM.out
      have hc := HA.out.2.2.1
      have h1 := HIn.rest (A2 := some ⟨g, o + i * 32, none⟩) (m := N - i) (c2 := c8 - i) HA.out (k := i) (by omega) rfl (by omega) (by have := HA.out.2.2.2.1; omega) (fun _ => rfl)
      have h2 := h1.head (k := t - i) (by omega)
      have e : ((leavesB L 0 N).drop i).take (t - i) = leavesB L i (t - i) := by
        unfold leavesB
        rw [List.drop_zero, List.map_take, List.map_take, List.map_drop, List.drop_take, List.take_take, Nat.min_eq_left (by omega)]
      rw [e] at h2
      exact ⟨h2.1, h2.2.1, by omega, by have := HA.out.2.2.2.1; omega, h2.2.2.2.2⟩)
    have u0 : (0 : Int) ≤ i := by omega
    have u1 : (i : Int) < N := by have := HNUM.out; omega
    have u2 : i < N := by have := HNUM.out; omega
    have u3 : (i : Int) ≤ t := by have := HNUM.out; omega
    have u4 : i ≤ t := by have := HNUM.out; omega
    have u5 : (t : Int) ≤ c8 := by have := HNUM.out; have := HA.out.2.2.1; omega
    have u6 : t ≤ c8 := by have := HNUM.out; have := HA.out.2.2.1; omega
    have HEVI := Lib.hid evi
    have u7 : ¬ c8 = i := by have := HNUM.out; have := HA.out.2.2.1; omega
    have v1 : (1 : Int) ≤ t := by have := HNUM.out; omega
    have v2 : IntKind.u64.wrap ((t : Int) - 1) = (t : Int) - 1 := IntWalk.u64_in _ (by have := HNUM.out; have := HNL.out; omega)
    clear evi hat gl rp pl hpp k3
    refine wp_region_held_drew (S := Gr w12) (by kernel_rfl) ((Gr.refl _).drew) (fun hHeld => ?_)
    refine wpAnyH_take (i := 0) (v := ?tv10) rfl (by kernel_rfl) (by kernel_rfl) (by kernel_rfl) (fun _ _ _ h => h) (Or.inl ⟨by rfl, ?ty10⟩) (by assumption) ?tr10
    case ty10 => (intro w hSw; (try dsimp only at hSw); go_simp; (try with_reducible rfl))
    try simp only [Act.put, List.getElem_toArray, List.getElem_cons_zero, List.setIfInBounds_toArray, List.set_cons_zero, List.set_cons_succ]
    refine wpAnyH_take (i := 1) (v := ?tv11) rfl (by kernel_rfl) (by kernel_rfl) (by kernel_rfl) (fun _ _ _ h => h) (Or.inl ⟨by rfl, ?ty11⟩) (by assumption) ?tr11
    case ty11 => (intro w hSw; (try dsimp only at hSw); go_simp; (try with_reducible rfl))
    try simp only [Act.put, List.getElem_toArray, List.getElem_cons_zero, List.getElem_cons_succ, List.setIfInBounds_toArray, List.set_cons_zero, List.set_cons_succ]
    refine wpAnyH_take (i := 2) (v := ?tv12) rfl (by kernel_rfl) (by kernel_rfl) (by kernel_rfl) (fun _ _ _ h => h) (Or.inl ⟨by rfl, ?ty12⟩) (by assumption) ?tr12
    case ty12 => (intro w hSw; (try dsimp only at hSw); go_simp; (try with_reducible rfl))
    try simp only [Act.put, List.getElem_toArray, List.getElem_cons_zero, List.getElem_cons_succ, List.setIfInBounds_toArray, List.set_cons_zero, List.set_cons_succ]
    refine wpAnyH_take (i := 3) (v := ?tv13) rfl (by kernel_rfl) (by kernel_rfl) (by kernel_rfl) (fun _ _ _ h => h) (Or.inl ⟨by rfl, ?ty13⟩) (by assumption) ?tr13
    case ty13 => (intro w hSw; (try dsimp only at hSw); go_simp; (try with_reducible rfl))
    try simp only [Act.put, List.getElem_toArray, List.getElem_cons_zero, List.getElem_cons_succ, List.setIfInBounds_toArray, List.set_cons_zero, List.set_cons_succ]
    refine wpAnyH_take (i := 4) (v := ?tv14) rfl (by kernel_rfl) (by kernel_rfl) (by kernel_rfl) (fun _ _ _ h => h) (Or.inl ⟨by rfl, ?ty14⟩) (by assumption) ?tr14
    case ty14 => (intro w hSw; (try dsimp only at hSw); go_simp; (try with_reducible rfl))
    try simp only [Act.put, List.getElem_toArray, List.getElem_cons_zero, List.getElem_cons_succ, List.setIfInBounds_toArray, List.set_cons_zero, List.set_cons_succ]
    refine wpAnyH_take (i := 5) (v := _) rfl (by kernel_rfl) (by kernel_rfl) (by kernel_rfl) (fun _ _ _ h => h) ((by rw [← EPP.out]; exact yieldsIf_load_mid (by rfl) 33 _ (by rfl) g (o + i * 32) (by first | rfl | simp) pp _ (fun w h => KPP.out w h) Tryd.underlying33 (by rfl) IPP.out : YieldsIf _ _ _ _ (.agg vi) _)) (by assumption) ?_
    try simp only [Act.put, List.getElem_toArray, List.getElem_cons_zero, List.getElem_cons_succ, List.setIfInBounds_toArray, List.set_cons_zero, List.set_cons_succ]
    refine wpAnyH_take (i := 6) (v := ?tv16) rfl (by kernel_rfl) (by kernel_rfl) (by kernel_rfl) (fun _ _ _ h => h) (Or.inl ⟨by rfl, ?ty16⟩) (by assumption) ?tr16
    case ty16 => (intro w hSw; (try dsimp only at hSw); go_simp; (try with_reducible rfl))
    try simp only [Act.put, List.getElem_toArray, List.getElem_cons_zero, List.getElem_cons_succ, List.setIfInBounds_toArray, List.set_cons_zero, List.set_cons_succ]
    refine wpAnyH_take (i := 7) (v := _) rfl (by kernel_rfl) (by kernel_rfl) (by kernel_rfl) (fun _ _ _ h => h) (yieldsIf_load_row (by rfl) 33 _ (by rfl) w4.heap.size (by rfl) 33 vn (0, 0) _ (fun w h => K9.out w h) Tryd.underlying33 rfl Ivn.out) (by assumption) ?_
    try simp only [Act.put, List.getElem_toArray, List.getElem_cons_zero, List.getElem_cons_succ, List.setIfInBounds_toArray, List.set_cons_zero, List.set_cons_succ]
    refine wpAnyH_ready (rs := [8]) (by kernel_rfl) (by simp) ?_
    refine AllReadyH.cons (i := 8) rfl (fun K2 hK2 => ?_) AllReadyH.nil
    go_simp
    go_at_call 13
    refine (CIN.out w12.drew (show Gr w12 w12.drew from (by repeat (first | exact Gr.refl _ | (refine Gr.step ?_ (by assumption)) | (refine Gr.alloc ?_ _) | (refine Gr.drew ?_))))).mono ?_
    rintro ev w102 ⟨rfl, b102⟩
    try go_wp2_with fail
    refine hK2.out _ _ (show Gr w12 _ from (by repeat (first | exact Gr.refl _ | (refine Gr.step ?_ (by assumption)) | (refine Gr.alloc ?_ _) | (refine Gr.drew ?_)))) (fun hHeld2 => ?_)
    clear hK2 K2
    try simp only [Act.put, List.getElem_toArray, List.getElem_cons_zero, List.getElem_cons_succ, List.setIfInBounds_toArray, List.set_cons_zero, List.set_cons_succ]
    refine wpAnyH_take (i := 9) (v := ?tv18) rfl (by kernel_rfl) (by kernel_rfl) (by kernel_rfl) (fun _ _ _ h => h) (Or.inl ⟨by rfl, ?ty18⟩) (by assumption) ?tr18
    case ty18 => (intro w hSw; (try dsimp only at hSw); go_simp; (try with_reducible rfl))
    try simp only [Act.put, List.getElem_toArray, List.getElem_cons_zero, List.getElem_cons_succ, List.setIfInBounds_toArray, List.set_cons_zero, List.set_cons_succ]
    refine wpAnyH_take (i := 10) (v := ?tv19) rfl (by kernel_rfl) (by kernel_rfl) (by kernel_rfl) (fun _ _ _ h => h) (Or.inl ⟨by rfl, ?ty19⟩) (by assumption) ?tr19
    case ty19 => (intro w hSw; (try dsimp only at hSw); go_simp; (try with_reducible rfl))
    try simp only [Act.put, List.getElem_toArray, List.getElem_cons_zero, List.getElem_cons_succ, List.setIfInBounds_toArray, List.set_cons_zero, List.set_cons_succ]
    refine wpAnyH_take (i := 11) (v := ?tv20) rfl (by kernel_rfl) (by kernel_rfl) (by kernel_rfl) (fun _ _ _ h => h) (Or.inl ⟨by rfl, ?ty20⟩) (by assumption) ?tr20
    case ty20 => (intro w hSw; (try dsimp only at hSw); go_simp; (try with_reducible rfl))
    try simp only [Act.put, List.getElem_toArray, List.getElem_cons_zero, List.getElem_cons_succ, List.setIfInBounds_toArray, List.set_cons_zero, List.set_cons_succ]
    refine wpAnyH_take (i := 12) (v := ?tv21) rfl (by kernel_rfl) (by kernel_rfl) (by kernel_rfl) (fun _ _ _ h => h) (Or.inl ⟨by rfl, ?ty21⟩) (by assumption) ?tr21
    case ty21 => (intro w hSw; (try dsimp only at hSw); go_simp; (try with_reducible rfl))
    try simp only [Act.put, List.getElem_toArray, List.getElem_cons_zero, List.getElem_cons_succ, List.setIfInBounds_toArray, List.set_cons_zero, List.set_cons_succ]
    refine wpAnyH_take (i := 13) (v := _) rfl (by kernel_rfl) (by kernel_rfl) (by kernel_rfl) (fun _ _ _ h => h) (yieldsIf_load_row (by rfl) 33 _ (by rfl) w6.heap.size (by rfl) 33 vm (0, 0) _ (fun w h => K11.out w h) Tryd.underlying33 rfl Ivm.out) (by assumption) ?_
    try simp only [Act.put, List.getElem_toArray, List.getElem_cons_zero, List.getElem_cons_succ, List.setIfInBounds_toArray, List.set_cons_zero, List.set_cons_succ]
    refine wpAnyH_take (i := 14) (v := _) rfl (by kernel_rfl) (by kernel_rfl) (by kernel_rfl) (fun _ _ _ h => h) (yieldsIf_load_row (by rfl) 33 _ (by rfl) w4.heap.size (by rfl) 33 vn (0, 0) _ (fun w h => K9.out w h) Tryd.underlying33 rfl Ivn.out) (by assumption) ?_
    try simp only [Act.put, List.getElem_toArray, List.getElem_cons_zero, List.getElem_cons_succ, List.setIfInBounds_toArray, List.set_cons_zero, List.set_cons_succ]
    refine wpAnyH_take (i := 15) (v := ?tv24) rfl (by kernel_rfl) (by kernel_rfl) (by kernel_rfl) (fun _ _ _ h => h) (Or.inl ⟨by rfl, ?ty24⟩) (by assumption) ?tr24
    case ty24 => (intro w hSw; (try dsimp only at hSw); go_simp; (try with_reducible rfl))
    try simp only [Act.put, List.getElem_toArray, List.getElem_cons_zero, List.getElem_cons_succ, List.setIfInBounds_toArray, List.set_cons_zero, List.set_cons_succ]
    refine wpAnyH_ready (rs := [16]) (by kernel_rfl) (by simp) ?_
    refine AllReadyH.cons (i := 16) rfl (fun K2 hK2 => ?_) AllReadyH.nil
    go_simp
    go_at_call 14
    refine (CCO.out w102 (show Gr w12 w102 from (by repeat (first | exact Gr.refl _ | (refine Gr.step ?_ (by assumption)) | (refine Gr.alloc ?_ _) | (refine Gr.drew ?_))))).mono ?_
    rintro ev w103 ⟨rfl, b103⟩
    try go_wp2_with fail
    refine hK2.out _ _ (show Gr w12 _ from (by repeat (first | exact Gr.refl _ | (refine Gr.step ?_ (by assumption)) | (refine Gr.alloc ?_ _) | (refine Gr.drew ?_)))) (fun hHeld2 => ?_)
    clear hK2 K2
    try simp only [Act.put, List.getElem_toArray, List.getElem_cons_zero, List.getElem_cons_succ, List.setIfInBounds_toArray, List.set_cons_zero, List.set_cons_succ]
    refine wpAnyH_take (i := 17) (v := ?tv25) rfl (by kernel_rfl) (by kernel_rfl) (by kernel_rfl) (fun _ _ _ h => h) (Or.inl ⟨by rfl, ?ty25⟩) (by assumption) ?tr25
    case ty25 => (intro w hSw; (try dsimp only at hSw); go_simp; (try with_reducible rfl))
    try simp only [Act.put, List.getElem_toArray, List.getElem_cons_zero, List.getElem_cons_succ, List.setIfInBounds_toArray, List.set_cons_zero, List.set_cons_succ]
    refine wpAnyH_take (i := 18) (v := ?tv26) rfl (by kernel_rfl) (by kernel_rfl) (by kernel_rfl) (fun _ _ _ h => h) (Or.inl ⟨by rfl, ?ty26⟩) (by assumption) ?tr26
    case ty26 => (intro w hSw; (try dsimp only at hSw); go_simp; (try with_reducible rfl))
    try simp only [Act.put, List.getElem_toArray, List.getElem_cons_zero, List.getElem_cons_succ, List.setIfInBounds_toArray, List.set_cons_zero, List.set_cons_succ]
    refine wpAnyH_done (by kernel_rfl) ?_ _
    go_wp2_with fail
    obtain ⟨x16, hx16⟩ : ∃ z, w103 = z := ⟨_, rfl⟩
    have g16 : Below w12.heap.size w12 x16 := by rw [← hx16]; exact (show Gr w12 w103 from (by repeat (first | exact Gr.refl _ | (refine Gr.step ?_ (by assumption)) | (refine Gr.alloc ?_ _) | (refine Gr.drew ?_))))
    rw [hx16]
    clear hx16
    go_upto_region 18 with fail
    refine wp_region_held_drew (S := Gr w12) (by kernel_rfl) ((show Gr w12 x16 from g16).drew) (fun hHeld => ?_)
    refine wpAnyH_take (i := 0) (v := ?tv1) rfl (by kernel_rfl) (by kernel_rfl) (by kernel_rfl) (fun _ _ _ h => h) (Or.inl ⟨by rfl, ?ty1⟩) (by assumption) ?tr1
    case ty1 => (intro w hSw; (try dsimp only at hSw); go_simp; (try with_reducible rfl))
    try simp only [Act.put, List.getElem_toArray, List.getElem_cons_zero, List.setIfInBounds_toArray, List.set_cons_zero, List.set_cons_succ]
    refine wpAnyH_take (i := 1) (v := ?tv2) rfl (by kernel_rfl) (by kernel_rfl) (by kernel_rfl) (fun _ _ _ h => h) (Or.inl ⟨by rfl, ?ty2⟩) (by assumption) ?tr2
    case ty2 => (intro w hSw; (try dsimp only at hSw); go_simp; (try with_reducible rfl))
    try simp only [Act.put, List.getElem_toArray, List.getElem_cons_zero, List.getElem_cons_succ, List.setIfInBounds_toArray, List.set_cons_zero, List.set_cons_succ]
    refine wpAnyH_take (i := 2) (v := ?tv3) rfl (by kernel_rfl) (by kernel_rfl) (by kernel_rfl) (fun _ _ _ h => h) (Or.inl ⟨by rfl, ?ty3⟩) (by assumption) ?tr3
    case ty3 => (intro w hSw; (try dsimp only at hSw); go_simp; (try with_reducible rfl))
    try simp only [Act.put, List.getElem_toArray, List.getElem_cons_zero, List.getElem_cons_succ, List.setIfInBounds_toArray, List.set_cons_zero, List.set_cons_succ]
    refine wpAnyH_take (i := 3) (v := ?tv4) rfl (by kernel_rfl) (by kernel_rfl) (by kernel_rfl) (fun _ _ _ h => h) (Or.inl ⟨by rfl, ?ty4⟩) (by assumption) ?tr4
    case ty4 => (intro w hSw; (try dsimp only at hSw); go_simp; (try with_reducible rfl))
    try simp only [Act.put, List.getElem_toArray, List.getElem_cons_zero, List.getElem_cons_succ, List.setIfInBounds_toArray, List.set_cons_zero, List.set_cons_succ]
    refine wpAnyH_take (i := 4) (v := ?tv5) rfl (by kernel_rfl) (by kernel_rfl) (by kernel_rfl) (fun _ _ _ h => h) (Or.inl ⟨by rfl, ?ty5⟩) (by assumption) ?tr5
    case ty5 => (intro w hSw; (try dsimp only at hSw); go_simp; (try with_reducible rfl))
    try simp only [Act.put, List.getElem_toArray, List.getElem_cons_zero, List.getElem_cons_succ, List.setIfInBounds_toArray, List.set_cons_zero, List.set_cons_succ]
    refine wpAnyH_take (i := 5) (v := ?tv6) rfl (by kernel_rfl) (by kernel_rfl) (by kernel_rfl) (fun _ _ _ h => h) (Or.inl ⟨by rfl, ?ty6⟩) (by assumption) ?tr6
    case ty6 => (intro w hSw; (try dsimp only at hSw); go_simp; (try with_reducible rfl))
    try simp only [Act.put, List.getElem_toArray, List.getElem_cons_zero, List.getElem_cons_succ, List.setIfInBounds_toArray, List.set_cons_zero, List.set_cons_succ]
    refine wpAnyH_take (i := 6) (v := ?tv7) rfl (by kernel_rfl) (by kernel_rfl) (by kernel_rfl) (fun _ _ _ h => h) (Or.inl ⟨by rfl, ?ty7⟩) (by assumption) ?tr7
    case ty7 => (intro w hSw; (try dsimp only at hSw); go_simp; (try with_reducible rfl))
    try simp only [Act.put, List.getElem_toArray, List.getElem_cons_zero, List.getElem_cons_succ, List.setIfInBounds_toArray, List.set_cons_zero, List.set_cons_succ]
    refine wpAnyH_take (i := 7) (v := _) rfl (by kernel_rfl) (by kernel_rfl) (by kernel_rfl) (fun _ _ _ h => h) (yieldsIf_load_row (by rfl) 33 _ (by rfl) w4.heap.size (by rfl) 33 vn (0, 0) _ (fun w h => K9.out w h) Tryd.underlying33 rfl Ivn.out) (by assumption) ?_
    try simp only [Act.put, List.getElem_toArray, List.getElem_cons_zero, List.getElem_cons_succ, List.setIfInBounds_toArray, List.set_cons_zero, List.set_cons_succ]
    refine wpAnyH_ready (rs := [8]) (by kernel_rfl) (by simp) ?_
    refine AllReadyH.cons (i := 8) rfl (fun K2 hK2 => ?_) AllReadyH.nil
    go_simp
    go_at_call 15
    refine (CBV.out _ _ x16.drew (show Gr w12 x16.drew from (by repeat (first | exact Gr.refl _ | (refine Gr.step ?_ (by assumption)) | (refine Gr.alloc ?_ _) | (refine Gr.drew ?_)))) (HSUB.out.below (show Gr w12 x16.drew from (by repeat (first | exact Gr.refl _ | (refine Gr.step ?_ (by assumption)) | (refine Gr.alloc ?_ _) | (refine Gr.drew ?_)))))).mono ?_
    rintro ev w101 ⟨rfl, b101⟩
    try go_wp2_with fail
    refine hK2.out _ _ (show Gr w12 _ from (by repeat (first | exact Gr.refl _ | (refine Gr.step ?_ (by assumption)) | (refine Gr.alloc ?_ _) | (refine Gr.drew ?_)))) (fun hHeld2 => ?_)
    clear hK2 K2
    try simp only [Act.put, List.getElem_toArray, List.getElem_cons_zero, List.getElem_cons_succ, List.setIfInBounds_toArray, List.set_cons_zero, List.set_cons_succ]
    refine wpAnyH_take (i := 9) (v := ?tv9) rfl (by kernel_rfl) (by kernel_rfl) (by kernel_rfl) (fun _ _ _ h => h) (Or.inl ⟨by rfl, ?ty9⟩) (by assumption) ?tr9
    case ty9 => (intro w hSw; (try dsimp only at hSw); go_simp; (try with_reducible rfl))
    try simp only [Act.put, List.getElem_toArray, List.getElem_cons_zero, List.getElem_cons_succ, List.setIfInBounds_toArray, List.set_cons_zero, List.set_cons_succ]
    refine wpAnyH_done (by kernel_rfl) ?_ _
    go_wp2_with fail
    obtain ⟨x18, hx18⟩ : ∃ z, w101 = z := ⟨_, rfl⟩
    have g18 : Below w12.heap.size w12 x18 := by rw [← hx18]; exact (show Gr w12 w101 from (by repeat (first | exact Gr.refl _ | (refine Gr.step ?_ (by assumption)) | (refine Gr.alloc ?_ _) | (refine Gr.drew ?_))))
    rw [hx18]
    clear hx18
    refine (CBP.out _ _ i x18 (by omega) (by have := HNUM.out; omega) g18 (HSUB.out.below g18)).mono ?_
    rintro ev w20 ⟨hp32, vv, rfl, ho, b20⟩
    (try unfold Gr at b20)
    obtain ⟨A19, c19, rfl, hc0⟩ := own_shape ho
    have hin := own_hin ho hp32 rfl
    revert hin
    generalize hq : List.length (treesB L _) = nqa
    intro hin
    have Hqa := Lib.hid hin
    clear hin hq ho hp32 hc0
    go_wp2_with fail
    refine (CBP.out _ _ ((t : Int) - 1) w20 (by have := HNUM.out; omega) (by omega) (show Gr w12 w20 from (by repeat (first | exact Gr.refl _ | (refine Gr.step ?_ (by assumption)) | (refine Gr.alloc ?_ _) | (refine Gr.drew ?_)))) (HSUB.out.below (show Gr w12 w20 from (by repeat (first | exact Gr.refl _ | (refine Gr.step ?_ (by assumption)) | (refine Gr.alloc ?_ _) | (refine Gr.drew ?_)))))).mono ?_
    rintro ev w21 ⟨hp32, vv, rfl, ho, b21⟩
    (try unfold Gr at b21)
    obtain ⟨A20, c20, rfl, hc0⟩ := own_shape ho
    have hin := own_hin ho hp32 rfl
    revert hin
    generalize hq : List.length (treesB L _) = nqb
    intro hin
    have Hqb := Lib.hid hin
    clear hin hq ho hp32 hc0
    go_wp2_with fail
    refine (CPA.out ((t : Int) - 1) w21 (by have := HNUM.out; omega) (by have := HNUM.out; omega) (show Gr w1 w21 from (by repeat (first | exact Gr.refl _ | (refine Gr.step ?_ (by assumption)) | (refine Gr.alloc ?_ _) | (refine Gr.drew ?_))))).mono ?_
    rintro ev w22 ⟨hp32, vv, rfl, ho, b22⟩
    (try unfold Gr at b22)
    obtain ⟨A21, c21, rfl, hc0⟩ := own_shape ho
    have hin := own_hin ho hp32 rfl
    revert hin
    generalize hq : List.length (treesB L _) = nql
    intro hin
    have Hql := Lib.hid hin
    clear hin hq ho hp32 hc0
    go_wp2_with fail
    have HS1 : Hid (Calls Tryd.prog 17 #[.slice A19 nqa c19, .slice A13 npa c13] w22 fun ev w' => ev = .returned (.bool true) ∧ Below w22.heap.size w22 w') := Lib.hid (by
      have := same_hashes _ _ A19 A13 nqa npa c19 c13 w22 (by have := Hqa.out.2.1; rw [treesB_len] at this; have := (t_path_len i n (by have := HNUM.out; omega) (by have := HNL.out; omega)).1; omega) (Hqa.out.below (show Gr w20 w22 from (by repeat (first | exact Gr.refl _ | (refine Gr.step ?_ (by assumption)) | (refine Gr.alloc ?_ _) | (refine Gr.drew ?_))))) (HPA.out.below (show Gr w12 w22 from (by repeat (first | exact Gr.refl _ | (refine Gr.step ?_ (by assumption)) | (refine Gr.alloc ?_ _) | (refine Gr.drew ?_)))))
      simpa using this)
    refine HS1.out.mono ?_
    rintro ev w23 ⟨rfl, b23⟩
    go_wp2_with fail
    have HS2 : Hid (Calls Tryd.prog 17 #[.slice A20 nqb c20, .slice A21 nql c21] w23 fun ev w' => ev = .returned (.bool true) ∧ Below w23.heap.size w23 w') := Lib.hid (by
      have hlen : nqb ≤ 9000000000000000000 := by
        have h1 := Hqb.out.2.1
        have h2 := pathL_log 64 ((t : Int) - 1) 0 n (by have := HNUM.out; omega) (by rw [pow2_64]; have := HNUM.out; have := HNL.out; omega)
        have h3 := lgI_bd (n := (n : Int) - 0) (by have := HNUM.out; have := HNL.out; omega)
        rw [treesB_len] at h1
        omega
      have := same_hashes _ _ A20 A21 nqb nql c20 c21 w23 hlen (Hqb.out.below (show Gr w21 w23 from (by repeat (first | exact Gr.refl _ | (refine Gr.step ?_ (by assumption)) | (refine Gr.alloc ?_ _) | (refine Gr.drew ?_))))) (Hql.out.below (show Gr w22 w23 from (by repeat (first | exact Gr.refl _ | (refine Gr.step ?_ (by assumption)) | (refine Gr.alloc ?_ _) | (refine Gr.drew ?_)))))
      simpa using this)
    refine HS2.out.mono ?_
    rintro ev w24 ⟨rfl, b24⟩
    go_wp2_with fail
    refine (known_any a B w24 (HE1.out.step (show Gr w1 w24 from (by repeat (first | exact Gr.refl _ | (refine Gr.step ?_ (by assumption)) | (refine Gr.alloc ?_ _) | (refine Gr.drew ?_)))))).mono ?_
    rintro ev w25 ⟨rfl, b25⟩
    go_wp2_with fail
    go_ret
    exact ⟨rfl, show Gr w w25 from (by repeat (first | exact Gr.refl _ | (refine Gr.step ?_ (by assumption)) | (refine Gr.alloc ?_ _) | (refine Gr.drew ?_)))⟩
end Go.Proofs.YtjhlgkjgodjmhaaDoor
