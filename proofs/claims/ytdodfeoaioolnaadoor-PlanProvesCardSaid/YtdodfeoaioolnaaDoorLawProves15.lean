/- The law PlanProves: of a log of hashes the parts' trees, folded, are the root, the path, the proof, the batch proof. Condition: the package-level variables read as listed. -/
import Derived.Test.YtdodfeoaioolnaaDoorLaw15All
import Derived.BigRegion
import Derived.Deep.DeepCutAuto
import Derived.Deep.RegionHeld
import Derived.Deep.MidRow
namespace Go.Proofs.YtdodfeoaioolnaaDoor
open Go.ChangeShapes Go.WideShapes Go.ChangeAt Go.RowKit
set_option linter.unusedVariables false
theorem tmod_bd (x : Int) (n : Nat) (h : 1 ≤ n) : -(n : Int) < x.tmod n ∧ x.tmod n < n := by
  have h1 := Int.tmod_lt_of_pos x (b := (n : Int)) (by omega)
  have h2 := Int.lt_tmod_of_pos x (b := (n : Int)) (by omega)
  exact ⟨h2, h1⟩
set_option maxRecDepth 100000 in
set_option maxHeartbeats 8000000 in
theorem proves15_lo (a : Nat → Addr) (B : Nat) (L : List (List UInt8)) (A : Option Addr) (n c : Nat) (xm xo xb : Int) (w : World) (hE : EnvP B a w) (hI : HIn w A n c L) (hn0 : 1 ≤ n) (hn : n ≤ 150) (hm0 : -9223372036854775808 ≤ xm ∧ xm ≤ 9223372036854775807) (ho0 : -9223372036854775808 ≤ xo ∧ xo ≤ 9223372036854775807) (hb0 : -9223372036854775808 ≤ xb ∧ xb ≤ 9223372036854775807)
    (mn on bn : Nat) (e1 : (xm.tmod n + (n : Int)) % (n : Int) = mn) (e2 : (xo.tmod n + (n : Int)) % (n : Int) + 1 = on) (e3 : (xb.tmod n + (n : Int)) % (n : Int) = bn) (hbo : bn < on) :
    Calls Tryd.prog 6 #[.agg #[.slice A n c, .int .i64 xm, .int .i64 xo, .int .i64 xb]] w fun ev w' => ev = .returned (.bool true) ∧ Below w.heap.size w w' := by
  obtain ⟨rm, hrm⟩ : ∃ r : Int, xm.tmod (n : Int) = r := ⟨_, rfl⟩
  have rmb : -(n : Int) < rm ∧ rm < n := by rw [← hrm]; exact tmod_bd xm n (by omega)
  have hrmw : IntKind.i64.wrap (rm + (n : Int)) = rm + (n : Int) := IntWalk.i64_in _ (by omega)
  obtain ⟨mq, hmq⟩ : ∃ m : Nat, (rm + (n : Int)) % (n : Int) = m := ⟨((rm + (n : Int)) % (n : Int)).toNat, by have := Int.emod_nonneg (rm + (n : Int)) (b := (n : Int)) (by omega); omega⟩
  have hmql : mq < n := by have := Int.emod_lt_of_pos (rm + (n : Int)) (b := (n : Int)) (by omega); omega
  have hmqt : (rm + (n : Int)).tmod (n : Int) = mq := by rw [Int.tmod_eq_emod_of_nonneg (by omega)]; exact hmq
  have hrm0 : (0 : Int) ≤ rm + (n : Int) := by omega
  obtain ⟨ro, hro⟩ : ∃ r : Int, xo.tmod (n : Int) = r := ⟨_, rfl⟩
  have rob : -(n : Int) < ro ∧ ro < n := by rw [← hro]; exact tmod_bd xo n (by omega)
  have hrow : IntKind.i64.wrap (ro + (n : Int)) = ro + (n : Int) := IntWalk.i64_in _ (by omega)
  obtain ⟨oq, hoq⟩ : ∃ m : Nat, (ro + (n : Int)) % (n : Int) = m := ⟨((ro + (n : Int)) % (n : Int)).toNat, by have := Int.emod_nonneg (ro + (n : Int)) (b := (n : Int)) (by omega); omega⟩
  have hoql : oq < n := by have := Int.emod_lt_of_pos (ro + (n : Int)) (b := (n : Int)) (by omega); omega
  have hoqt : (ro + (n : Int)).tmod (n : Int) = oq := by rw [Int.tmod_eq_emod_of_nonneg (by omega)]; exact hoq
  have hro0 : (0 : Int) ≤ ro + (n : Int) := by omega
  obtain ⟨rb, hrb⟩ : ∃ r : Int, xb.tmod (n : Int) = r := ⟨_, rfl⟩
  have rbb : -(n : Int) < rb ∧ rb < n := by rw [← hrb]; exact tmod_bd xb n (by omega)
  have hrbw : IntKind.i64.wrap (rb + (n : Int)) = rb + (n : Int) := IntWalk.i64_in _ (by omega)
  obtain ⟨bq, hbq⟩ : ∃ m : Nat, (rb + (n : Int)) % (n : Int) = m := ⟨((rb + (n : Int)) % (n : Int)).toNat, by have := Int.emod_nonneg (rb + (n : Int)) (b := (n : Int)) (by omega); omega⟩
  have hbql : bq < n := by have := Int.emod_lt_of_pos (rb + (n : Int)) (b := (n : Int)) (by omega); omega
  have hbqt : (rb + (n : Int)).tmod (n : Int) = bq := by rw [Int.tmod_eq_emod_of_nonneg (by omega)]; exact hbq
  have hrb0 : (0 : Int) ≤ rb + (n : Int) := by omega
  rw [hrm, hmq] at e1
  rw [hro, hoq] at e2
  rw [hrb, hbq] at e3
  obtain rfl : mq = mn := by omega
  obtain rfl : bq = bn := by omega
  have hoe : on = oq + 1 := by omega
  have hLn := hI.2.1
  have h32 := hI.1
  have HE := Lib.hid hE
  have HI := Lib.hid hI
  have hcut := cut_all hLn
  obtain ⟨be, hbe⟩ : ∃ q : Nat, q = bq := ⟨_, rfl⟩
  have hbo2 : be < on := by omega
  have hr := Half.root (n := (n : Int)) (by omega) (by omega)
  have hpw : (n : Int) - 0 ≤ pow2 64 := by rw [pow2_64]; omega
  have hpw2 : (n : Int) ≤ pow2 64 := by rw [pow2_64]; omega
  have z0 : ((0 : Nat) : Int) = 0 := rfl
  have HRO : Hid (∀ w', Gr w w' → Calls Tryd.prog 22 #[.int .u64 (n : Int)] w' (RootPost n w')) := Lib.hid (fun w' h => root_any n w' (HE.out.step h).tz (HE.out.step h).lo (by omega))
  have htl := treeI_len h32 0 (n : Int) (by omega) (by omega) (by omega) hpw
  have hfp := fold_part L hr
  obtain ⟨x, hx⟩ : ∃ x, treeI L 0 (n : Int) = x := ⟨_, rfl⟩
  rw [hx] at htl hfp
  obtain ⟨vt, evt, Hvt, Zvt, Ivt, Ovt⟩ := row_of x htl
  have HMT : Hid (∀ w', Below w.heap.size w w' → Calls Tryd.prog 24 #[.slice A n c] w' fun ev w2 => ev = .returned (.agg vt) ∧ Below w'.heap.size w' w2) := Lib.hid (fun w' h => by
    have := mth_any a B L h32 n 0 n c A w' (Nat.le_refl _) (by omega) (by omega) (HE.out.step h) (by rw [hcut]; exact HI.out.below h)
    rw [Nat.zero_add, z0, hx, evt] at this
    exact this)
  have HFD : Hid (∀ v w', Gr w w' → Rd w' v 2 (coverS (0, (n : Int))).length (coordCells (coverS (0, (n : Int)))) → Calls Tryd.prog 23 #[.agg #[v], .slice A n c] w' fun ev w2 => ev = .returned (.tuple #[.agg vt, .bool true]) ∧ Below w'.heap.size w' w2) := Lib.hid (fun v w' h hv => by
    have := folded_any a B L (coverS (0, (n : Int))) v A n c w' (HE.out.step h) (HI.out.below h) (by omega) hv (cover_in hr (by omega)) (cover_lie hr).2.2.1 (by have := coverL_len 128 (0 : Int).toNat (n : Int).toNat; unfold coverS; simp only; omega)
    have e5 : foldR nodeH zeroH (partI L (coverS (0, (n : Int)))) = x := hfp
    rw [e5, evt] at this
    exact this)
  have hqq : ∀ w, (Op.equalIn 10000 26 (.agg vt) (.agg vt)).run Tryd.prog w = .ok true w := fun w => by rw [eq_hash x x htl htl vt vt evt evt w]; simp
  have HQ := Lib.hid hqq
  have HP1 : Hid (∀ w', Gr w w' → Calls Tryd.prog 14 #[.int .u64 (mq : Int), .int .u64 (n : Int)] w' (PartsPost w' ((pathL 64 mq 0 n).map coverS))) := Lib.hid (fun w' h => plan_path_ok mq n w' (HE.out.step h).tz (HE.out.step h).lo (by omega) (by omega) (by omega))
  have HP2 : Hid (∀ w', Gr w w' → Calls Tryd.prog 16 #[.int .u64 (on : Int), .int .u64 (n : Int)] w' (PartsPost w' ((proofL 64 on 0 n).map coverS))) := Lib.hid (fun w' h => plan_proof_ok on n w' (HE.out.step h).tz (HE.out.step h).lo (by omega) (by omega) (by omega))
  have HP3 : Hid (∀ w', Gr w w' → Calls Tryd.prog 21 #[.int .u64 (be : Int), .int .u64 (on : Int), .int .u64 (n : Int)] w' (PartsPost w' ((batchL 64 be on 0 n).map coverS))) := Lib.hid (fun w' h => by exact plan_batch_ok be on n w' (HE.out.step h).tz (HE.out.step h).lo (by omega) (by omega) (by omega) (by omega))
  have HW1 : Hid (∀ w', Gr w w' → Calls Tryd.prog 26 #[.int .i64 (mq : Int), .slice A n c] w' (HList w' (treesI L (pathL 64 mq 0 n)))) := Lib.hid (fun w' h => by
    have := path15_any a B L h32 64 0 n mq c A w' hpw2 hmql (by omega) (by omega) (Nat.le_refl _) (HE.out.step h) (by rw [hcut]; exact HI.out.below h)
    rw [Nat.zero_add, Nat.zero_add, z0] at this
    exact this)
  have HW2 : Hid (∀ w', Gr w w' → Calls Tryd.prog 27 #[.int .i64 (on : Int), .slice A n c, .bool true] w' (HList w' (treesI L (proofL 64 on 0 n)))) := Lib.hid (fun w' h => by
    have := sub15_any a B L h32 64 0 n on c A w' hpw2 (by omega) (by omega) (by omega) (by omega) (Nat.le_refl _) (HE.out.step h) (by rw [hcut]; exact HI.out.below h)
    rw [Nat.zero_add, Nat.zero_add, z0] at this
    exact this)
  have HW3 : Hid (∀ w', Gr w w' → Calls Tryd.prog 28 #[.int .i64 (be : Int), .int .i64 (on : Int), .int .i64 0, .slice A n c] w' (HList w' (treesI L (batchL 64 be on 0 n)))) := Lib.hid (fun w' h => by
    skip
    have := batch15_any a B L h32 be on (by omega) (by omega) (by omega) 64 0 n c A w' hpw2 hn0 (by omega) (by omega) (by omega) (Nat.le_refl _) (HE.out.step h) (by rw [hcut]; exact HI.out.below h)
    rw [Nat.zero_add, z0] at this
    exact this)
  have HV1 : Hid (∀ v v3 base w', Gr w w' → PRd w' v ((pathL 64 mq 0 n).map coverS) → H32 (treesI L (pathL 64 mq 0 n)) → w'.ownsRow base 26 32 v3 (treesI L (pathL 64 mq 0 n)).length (hashCells (treesI L (pathL 64 mq 0 n))) → Calls Tryd.prog 25 #[v, .slice A n c, v3] w' fun ev w2 => ev = .returned (.bool true) ∧ Below w'.heap.size w' w2) := Lib.hid (fun v v3 base w' h h1 h2 h3 =>
    list_proves a B L _ v v3 A n c base w' (HE.out.step h) (HI.out.below h) (by omega) (fun s hs => path_half 64 mq 0 n s hr (by omega) (by omega) hpw hs) (path_spansIn mq n (by omega) (by omega) (by omega)) (by have := pathL_len 64 mq 0 n; omega) h1 h2 h3)
  have HV2 : Hid (∀ v v3 base w', Gr w w' → PRd w' v ((proofL 64 on 0 n).map coverS) → H32 (treesI L (proofL 64 on 0 n)) → w'.ownsRow base 26 32 v3 (treesI L (proofL 64 on 0 n)).length (hashCells (treesI L (proofL 64 on 0 n))) → Calls Tryd.prog 25 #[v, .slice A n c, v3] w' fun ev w2 => ev = .returned (.bool true) ∧ Below w'.heap.size w' w2) := Lib.hid (fun v v3 base w' h h1 h2 h3 =>
    list_proves a B L _ v v3 A n c base w' (HE.out.step h) (HI.out.below h) (by omega) (fun s hs => proof_half 64 on 0 n s hr (by omega) (by omega) hpw hs) (proof_spansIn on n (by omega) (by omega) (by omega)) (by have := proofL_len 64 on 0 n; omega) h1 h2 h3)
  have HV3 : Hid (∀ v v3 base w', Gr w w' → PRd w' v ((batchL 64 be on 0 n).map coverS) → H32 (treesI L (batchL 64 be on 0 n)) → w'.ownsRow base 26 32 v3 (treesI L (batchL 64 be on 0 n)).length (hashCells (treesI L (batchL 64 be on 0 n))) → Calls Tryd.prog 25 #[v, .slice A n c, v3] w' fun ev w2 => ev = .returned (.bool true) ∧ Below w'.heap.size w' w2) := Lib.hid (fun v v3 base w' h h1 h2 h3 =>
    list_proves a B L _ v v3 A n c base w' (HE.out.step h) (HI.out.below h) (by omega) (fun s hs => batch_half 64 be on 0 n s hr hpw hs) (batch_spansIn be on n (by omega) (by omega) (by omega) (by omega)) (by have := batchL_len 64 be on 0 n (by omega) hpw; omega) h1 h2 h3)
  obtain ⟨wz, hwz⟩ : ∃ z, w.alloc (.cells #[.slice A n c, .int .i64 xm, .int .i64 xo, .int .i64 xb] 55) = z := ⟨_, rfl⟩
  have HBZ : Hid (Gr w wz) := Lib.hid (by rw [← hwz]; exact (Gr.refl _).alloc _)
  have rz : wz.heap[w.heap.size]? = some (.cells #[.slice A n c, .int .i64 xm, .int .i64 xo, .int .i64 xb] 55 (0, 0)) := by rw [← hwz]; exact heap_at _ _ _ rfl
  have k0 : wz.cell? ⟨w.heap.size, 0, none⟩ = some (.slice A n c) := by rw [cell_of_row _ _ 0 _ _ _ rz]; rfl
  have k1 : wz.cell? ⟨w.heap.size, 1, none⟩ = some (.int .i64 xm) := by rw [cell_of_row _ _ 1 _ _ _ rz]; rfl
  have k2 : wz.cell? ⟨w.heap.size, 2, none⟩ = some (.int .i64 xo) := by rw [cell_of_row _ _ 2 _ _ _ rz]; rfl
  have k3 : wz.cell? ⟨w.heap.size, 3, none⟩ = some (.int .i64 xb) := by rw [cell_of_row _ _ 3 _ _ _ rz]; rfl
  have HWZ := Lib.hid hwz
  have t0 : ((n : Int) == 0) = false := by simp; omega
  have t1 : (n : Int) ≤ 150 := by omega
  have t2 : (1 : Int) ≤ n := by omega
  have hw64 : IntKind.u64.wrap (n : Int) = n := IntWalk.u64_in _ (by omega)
  have hw64m : IntKind.u64.wrap (mq : Int) = mq := IntWalk.u64_in _ (by omega)
  have hw64o : IntKind.u64.wrap (on : Int) = on := IntWalk.u64_in _ (by omega)
  have hw64b : IntKind.u64.wrap (be : Int) = be := IntWalk.u64_in _ (by omega)
  have ho1 : IntKind.i64.wrap ((oq : Int) + 1) = on := by rw [show (oq : Int) + 1 = on by omega]; exact IntWalk.i64_in _ (by omega)
  have ho3 : IntKind.i64.wrap (on : Int) = on := IntWalk.i64_in _ (by omega)
  have hb1 : (bq : Int) < on := by omega
  skip
  obtain rfl : be = bq := hbe
  clear hoe hbo2 hwz rz hE hI h32 hcut hx htl hfp evt hqq e1 e2 e3 hm0 ho0 hb0 hr hpw hpw2 hLn z0
  go_enter Tryd.func6, Tryd.ntmps6
  go_upto_region 1 with fail
  rw [HWZ.out]
  go_wp2_with fail
  refine (HRO.out wz HBZ.out).mono ?_
  rintro ev w1 ⟨A1, m1, c1, rfl, hm1, hr1, b1⟩
  have B1 := Lib.hid (show Gr w w1 from HBZ.out.trans (Below.mono b1 HBZ.out.size))
  have HFD1 := Lib.hid (fun w' (h : Gr w w') (h2 : Below w1.heap.size w1 w') => HFD.out (.slice A1 m1 c1) w' h (by have := hr1.below h2; rw [hm1] at this; rw [hm1]; exact this))
  clear hm1 hr1 b1
  go_wp2_with fail
  refine (HFD1.out _ (B1.out.alloc _) ((Below.refl _ _).alloc (Nat.le_refl _) _)).mono ?_
  rintro ev w2 ⟨rfl, b2⟩
  have B2 := Lib.hid (show Gr w w2 from (B1.out.alloc _).trans (Below.mono b2 (B1.out.alloc _).size))
  clear b2
  go_upto_region 12 with (refine wpList_store_row_any rfl 26 _ _ rfl w2.heap.size vt rfl rfl 26 _ (heap_at _ _ _ rfl) Ivt.out (by rw [Zvt.out]; rfl) Ovt.out ?_; intro wk hbN hgN hsN; have BK := Lib.hid (And.intro hbN hsN); have R8 := Lib.hid hgN; clear hbN hgN hsN)
  have hk8 : w2.heap.size < wk.heap.size := (Array.getElem?_eq_some_iff.1 R8.out).1
  have HBK : Hid (Gr w wk) := Lib.hid ((B2.out.alloc _).trans (BK.out.1.to_below (by have := B2.out.size; simp; omega) (fun k hk q => by have := B2.out.size; omega)))
  have hqq := HQ.out
  refine wp_region_held_drew (S := Gr wk) (by kernel_rfl) (Gr.drew (Gr.refl _)) (fun hHeld => ?_)
  refine wpAnyH_take (i := 0) (v := ?tv1) rfl (by kernel_rfl) (by kernel_rfl) (by kernel_rfl) (fun _ _ _ h => h) (Or.inl ⟨by rfl, ?ty1⟩) (by assumption) ?tr1
  case ty1 => (intro w hSw; (try dsimp only at hSw); go_simp; (try with_reducible rfl))
  try simp only [Act.put, List.getElem_toArray, List.getElem_cons_zero, List.setIfInBounds_toArray, List.set_cons_zero, List.set_cons_succ]
  refine wpAnyH_take (i := 1) (v := ?tv2) rfl (by kernel_rfl) (by kernel_rfl) (by kernel_rfl) (fun _ _ _ h => h) (Or.inl ⟨by rfl, ?ty2⟩) (by assumption) ?tr2
  case ty2 => (intro w hSw; (try dsimp only at hSw); go_simp; (try with_reducible rfl))
  try simp only [Act.put, List.getElem_toArray, List.getElem_cons_zero, List.getElem_cons_succ, List.setIfInBounds_toArray, List.set_cons_zero, List.set_cons_succ]
  refine wpAnyH_take (i := 2) (v := ?tv3) rfl (by kernel_rfl) (by kernel_rfl) (by kernel_rfl) (fun _ _ _ h => h) (Or.inl ⟨by rfl, ?ty3⟩) (by assumption) ?tr3
  case ty3 => (intro w hSw; (try dsimp only at hSw); go_simp; (try with_reducible rfl))
  try simp only [Act.put, List.getElem_toArray, List.getElem_cons_zero, List.getElem_cons_succ, List.setIfInBounds_toArray, List.set_cons_zero, List.set_cons_succ]
  refine wpAnyH_take (i := 3) (v := ?tv4) rfl (by kernel_rfl) (by kernel_rfl) (by kernel_rfl) (fun _ _ _ h => h) (Or.inl ⟨by rfl, ?ty4⟩) (by assumption) ?tr4
  case ty4 => (intro w hSw; (try dsimp only at hSw); go_simp; (try with_reducible rfl))
  try simp only [Act.put, List.getElem_toArray, List.getElem_cons_zero, List.getElem_cons_succ, List.setIfInBounds_toArray, List.set_cons_zero, List.set_cons_succ]
  refine wpAnyH_take (i := 4) (v := ?tv5) rfl (by kernel_rfl) (by kernel_rfl) (by kernel_rfl) (fun _ _ _ h => h) (Or.inl ⟨by rfl, ?ty5⟩) (by assumption) ?tr5
  case ty5 => (intro w hSw; (try dsimp only at hSw); go_simp; (try with_reducible rfl))
  try simp only [Act.put, List.getElem_toArray, List.getElem_cons_zero, List.getElem_cons_succ, List.setIfInBounds_toArray, List.set_cons_zero, List.set_cons_succ]
  refine wpAnyH_take (i := 5) (v := ?tv6) rfl (by kernel_rfl) (by kernel_rfl) (by kernel_rfl) (fun _ _ _ h => h) (Or.inl ⟨by rfl, ?ty6⟩) (by assumption) ?tr6
  case ty6 => (intro w hSw; (try dsimp only at hSw); go_simp; (try with_reducible rfl))
  try simp only [Act.put, List.getElem_toArray, List.getElem_cons_zero, List.getElem_cons_succ, List.setIfInBounds_toArray, List.set_cons_zero, List.set_cons_succ]
  refine wpAnyH_take (i := 6) (v := ?tv7) rfl (by kernel_rfl) (by kernel_rfl) (by kernel_rfl) (fun _ _ _ h => h) (Or.inl ⟨by rfl, ?ty7⟩) (by assumption) ?tr7
  case ty7 => (intro w hSw; (try dsimp only at hSw); go_simp; (try with_reducible rfl))
  try simp only [Act.put, List.getElem_toArray, List.getElem_cons_zero, List.getElem_cons_succ, List.setIfInBounds_toArray, List.set_cons_zero, List.set_cons_succ]
  refine wpAnyH_take (i := 7) (v := _) rfl (by kernel_rfl) (by kernel_rfl) (by kernel_rfl) (fun _ _ _ h => h) (yieldsIf_load_row (by rfl) 26 _ (by rfl) _ (by rfl) 26 vt (0, 0) _ (fun w h => (Below.block h _ hk8).trans R8.out) Tryd.underlying26 rfl Ivt.out) (by assumption) ?_
  try simp only [Act.put, List.getElem_toArray, List.getElem_cons_zero, List.getElem_cons_succ, List.setIfInBounds_toArray, List.set_cons_zero, List.set_cons_succ]
  refine wpAnyH_take (i := 8) (v := ?tv9) rfl (by kernel_rfl) (by kernel_rfl) (by kernel_rfl) (fun _ _ _ h => h) (Or.inl ⟨by rfl, ?ty9⟩) (by assumption) ?tr9
  case ty9 => (intro w hSw; (try dsimp only at hSw); go_simp; (try with_reducible rfl))
  try simp only [Act.put, List.getElem_toArray, List.getElem_cons_zero, List.getElem_cons_succ, List.setIfInBounds_toArray, List.set_cons_zero, List.set_cons_succ]
  refine wpAnyH_ready (rs := [9]) (by kernel_rfl) (by simp) ?_
  refine AllReadyH.cons (i := 9) rfl (fun K2 hK2 => ?_) AllReadyH.nil
  go_simp
  go_at_call 24
  refine (HMT.out wk.drew (HBK.out.trans (Below.mono (show Gr wk wk.drew from (by repeat (first | exact Gr.refl _ | (refine Gr.drew ?_) | (refine Gr.step ?_ (by assumption))))) HBK.out.size))).mono ?_
  rintro ev w101 ⟨rfl, b101⟩
  try go_wp2_with fail
  refine hK2.out _ _ (show Gr wk _ from (by repeat (first | exact Gr.refl _ | (refine Gr.step ?_ (by assumption)) | (refine Gr.alloc ?_ _) | (refine Gr.drew ?_)))) (fun hHeld2 => ?_)
  clear hK2 K2
  try simp only [Act.put, List.getElem_toArray, List.getElem_cons_zero, List.getElem_cons_succ, List.setIfInBounds_toArray, List.set_cons_zero, List.set_cons_succ]
  refine wpAnyH_take (i := 10) (v := ?tv10) rfl (by kernel_rfl) (by kernel_rfl) (by kernel_rfl) (fun _ _ _ h => h) (Or.inl ⟨by rfl, ?ty10⟩) (by assumption) ?tr10
  case ty10 => (intro w hSw; (try dsimp only at hSw); go_simp; (try with_reducible rfl))
  try simp only [Act.put, List.getElem_toArray, List.getElem_cons_zero, List.getElem_cons_succ, List.setIfInBounds_toArray, List.set_cons_zero, List.set_cons_succ]
  refine wpAnyH_take (i := 11) (v := ?tv11) rfl (by kernel_rfl) (by kernel_rfl) (by kernel_rfl) (fun _ _ _ h => h) (Or.inl ⟨by rfl, ?ty11⟩) (by assumption) ?tr11
  case ty11 => (intro w hSw; (try dsimp only at hSw); go_simp; (try with_reducible rfl))
  try simp only [Act.put, List.getElem_toArray, List.getElem_cons_zero, List.getElem_cons_succ, List.setIfInBounds_toArray, List.set_cons_zero, List.set_cons_succ]
  refine wpAnyH_done (by kernel_rfl) ?_ _
  have b9 := (show Below wk.heap.size wk w101 from (Gr.step (Gr.drew (Gr.refl _)) b101))
  obtain ⟨w9, hw9⟩ : ∃ x, w101 = x := ⟨_, rfl⟩
  rw [hw9] at b9 ⊢
  clear hw9 hHeld hHeld2
  have B9 := Lib.hid (show Gr w w9 from HBK.out.trans (Below.mono b9 HBK.out.size))
  clear b9
  go_wp2_with fail
  refine (HP1.out w9 B9.out).mono ?_
  rintro ev w10 ⟨v1, vs1, rfl, o1, p1, _, b10⟩
  have R1 := Lib.hid (prd_hold o1 p1 (by simp))
  have B10 := Lib.hid (show Gr w w10 from B9.out.trans (Below.mono b10 B9.out.size))
  clear o1 p1 b10
  go_wp2_with fail
  refine (HW1.out w10 B10.out).mono ?_
  rintro ev w11 ⟨z1, rfl, h32a, oa, b11⟩
  have B11 := Lib.hid (show Gr w w11 from B10.out.trans (Below.mono b11 B10.out.size))
  have X1 := Lib.hid (HV1.out v1 z1 _ w11 B11.out (R1.out.below b11) h32a oa)
  clear h32a oa b11
  go_wp2_with fail
  refine X1.out.mono ?_
  rintro ev w12 ⟨rfl, b12⟩
  have B12 := Lib.hid (show Gr w w12 from B11.out.trans (Below.mono b12 B11.out.size))
  clear b12
  go_wp2_with fail
  refine (HP2.out w12 B12.out).mono ?_
  rintro ev w13 ⟨v2, vs2, rfl, o2, p2, _, b13⟩
  have R2 := Lib.hid (prd_hold o2 p2 (by simp))
  have B13 := Lib.hid (show Gr w w13 from B12.out.trans (Below.mono b13 B12.out.size))
  clear o2 p2 b13
  go_wp2_with fail
  refine (HW2.out w13 B13.out).mono ?_
  rintro ev w14 ⟨z2, rfl, h32b, ob, b14⟩
  have B14 := Lib.hid (show Gr w w14 from B13.out.trans (Below.mono b14 B13.out.size))
  have X2 := Lib.hid (HV2.out v2 z2 _ w14 B14.out (R2.out.below b14) h32b ob)
  clear h32b ob b14
  go_wp2_with fail
  refine X2.out.mono ?_
  rintro ev w15 ⟨rfl, b15⟩
  have B15 := Lib.hid (show Gr w w15 from B14.out.trans (Below.mono b15 B14.out.size))
  clear b15
  go_wp2_with fail
  refine (HP3.out w15 B15.out).mono ?_
  rintro ev w16 ⟨v3, vs3, rfl, o3, p3, _, b16⟩
  have R3 := Lib.hid (prd_hold o3 p3 (by simp))
  have B16 := Lib.hid (show Gr w w16 from B15.out.trans (Below.mono b16 B15.out.size))
  clear o3 p3 b16
  go_wp2_with fail
  refine (HW3.out w16 B16.out).mono ?_
  rintro ev w17 ⟨z3, rfl, h32c, oc, b17⟩
  have B17 := Lib.hid (show Gr w w17 from B16.out.trans (Below.mono b17 B16.out.size))
  have X3 := Lib.hid (HV3.out v3 z3 _ w17 B17.out (R3.out.below b17) h32c oc)
  clear h32c oc b17
  go_wp2_with fail
  refine X3.out.mono ?_
  rintro ev w18 ⟨rfl, b18⟩
  have B18 := Lib.hid (show Gr w w18 from B17.out.trans (Below.mono b18 B17.out.size))
  clear b18
  go_wp2_with fail
  refine (alive15 a B w18 (HE.out.step B18.out)).mono ?_
  rintro ev w19 ⟨rfl, b19⟩
  go_wp2
  go_ret
  exact ⟨rfl, show Below w.heap.size w w19 from B18.out.trans (Below.mono b19 B18.out.size)⟩

set_option maxRecDepth 100000 in
set_option maxHeartbeats 8000000 in
theorem proves15_hi (a : Nat → Addr) (B : Nat) (L : List (List UInt8)) (A : Option Addr) (n c : Nat) (xm xo xb : Int) (w : World) (hE : EnvP B a w) (hI : HIn w A n c L) (hn0 : 1 ≤ n) (hn : n ≤ 150) (hm0 : -9223372036854775808 ≤ xm ∧ xm ≤ 9223372036854775807) (ho0 : -9223372036854775808 ≤ xo ∧ xo ≤ 9223372036854775807) (hb0 : -9223372036854775808 ≤ xb ∧ xb ≤ 9223372036854775807)
    (mn on bn : Nat) (e1 : (xm.tmod n + (n : Int)) % (n : Int) = mn) (e2 : (xo.tmod n + (n : Int)) % (n : Int) + 1 = on) (e3 : (xb.tmod n + (n : Int)) % (n : Int) = bn) (hbo : on ≤ bn) :
    Calls Tryd.prog 6 #[.agg #[.slice A n c, .int .i64 xm, .int .i64 xo, .int .i64 xb]] w fun ev w' => ev = .returned (.bool true) ∧ Below w.heap.size w w' := by
  obtain ⟨rm, hrm⟩ : ∃ r : Int, xm.tmod (n : Int) = r := ⟨_, rfl⟩
  have rmb : -(n : Int) < rm ∧ rm < n := by rw [← hrm]; exact tmod_bd xm n (by omega)
  have hrmw : IntKind.i64.wrap (rm + (n : Int)) = rm + (n : Int) := IntWalk.i64_in _ (by omega)
  obtain ⟨mq, hmq⟩ : ∃ m : Nat, (rm + (n : Int)) % (n : Int) = m := ⟨((rm + (n : Int)) % (n : Int)).toNat, by have := Int.emod_nonneg (rm + (n : Int)) (b := (n : Int)) (by omega); omega⟩
  have hmql : mq < n := by have := Int.emod_lt_of_pos (rm + (n : Int)) (b := (n : Int)) (by omega); omega
  have hmqt : (rm + (n : Int)).tmod (n : Int) = mq := by rw [Int.tmod_eq_emod_of_nonneg (by omega)]; exact hmq
  have hrm0 : (0 : Int) ≤ rm + (n : Int) := by omega
  obtain ⟨ro, hro⟩ : ∃ r : Int, xo.tmod (n : Int) = r := ⟨_, rfl⟩
  have rob : -(n : Int) < ro ∧ ro < n := by rw [← hro]; exact tmod_bd xo n (by omega)
  have hrow : IntKind.i64.wrap (ro + (n : Int)) = ro + (n : Int) := IntWalk.i64_in _ (by omega)
  obtain ⟨oq, hoq⟩ : ∃ m : Nat, (ro + (n : Int)) % (n : Int) = m := ⟨((ro + (n : Int)) % (n : Int)).toNat, by have := Int.emod_nonneg (ro + (n : Int)) (b := (n : Int)) (by omega); omega⟩
  have hoql : oq < n := by have := Int.emod_lt_of_pos (ro + (n : Int)) (b := (n : Int)) (by omega); omega
  have hoqt : (ro + (n : Int)).tmod (n : Int) = oq := by rw [Int.tmod_eq_emod_of_nonneg (by omega)]; exact hoq
  have hro0 : (0 : Int) ≤ ro + (n : Int) := by omega
  obtain ⟨rb, hrb⟩ : ∃ r : Int, xb.tmod (n : Int) = r := ⟨_, rfl⟩
  have rbb : -(n : Int) < rb ∧ rb < n := by rw [← hrb]; exact tmod_bd xb n (by omega)
  have hrbw : IntKind.i64.wrap (rb + (n : Int)) = rb + (n : Int) := IntWalk.i64_in _ (by omega)
  obtain ⟨bq, hbq⟩ : ∃ m : Nat, (rb + (n : Int)) % (n : Int) = m := ⟨((rb + (n : Int)) % (n : Int)).toNat, by have := Int.emod_nonneg (rb + (n : Int)) (b := (n : Int)) (by omega); omega⟩
  have hbql : bq < n := by have := Int.emod_lt_of_pos (rb + (n : Int)) (b := (n : Int)) (by omega); omega
  have hbqt : (rb + (n : Int)).tmod (n : Int) = bq := by rw [Int.tmod_eq_emod_of_nonneg (by omega)]; exact hbq
  have hrb0 : (0 : Int) ≤ rb + (n : Int) := by omega
  rw [hrm, hmq] at e1
  rw [hro, hoq] at e2
  rw [hrb, hbq] at e3
  obtain rfl : mq = mn := by omega
  obtain rfl : bq = bn := by omega
  have hoe : on = oq + 1 := by omega
  have hLn := hI.2.1
  have h32 := hI.1
  have HE := Lib.hid hE
  have HI := Lib.hid hI
  have hcut := cut_all hLn
  obtain ⟨be, hbe⟩ : ∃ q : Nat, q = (on - 1) := ⟨_, rfl⟩
  have hbo2 : be < on := by omega
  have hr := Half.root (n := (n : Int)) (by omega) (by omega)
  have hpw : (n : Int) - 0 ≤ pow2 64 := by rw [pow2_64]; omega
  have hpw2 : (n : Int) ≤ pow2 64 := by rw [pow2_64]; omega
  have z0 : ((0 : Nat) : Int) = 0 := rfl
  have HRO : Hid (∀ w', Gr w w' → Calls Tryd.prog 22 #[.int .u64 (n : Int)] w' (RootPost n w')) := Lib.hid (fun w' h => root_any n w' (HE.out.step h).tz (HE.out.step h).lo (by omega))
  have htl := treeI_len h32 0 (n : Int) (by omega) (by omega) (by omega) hpw
  have hfp := fold_part L hr
  obtain ⟨x, hx⟩ : ∃ x, treeI L 0 (n : Int) = x := ⟨_, rfl⟩
  rw [hx] at htl hfp
  obtain ⟨vt, evt, Hvt, Zvt, Ivt, Ovt⟩ := row_of x htl
  have HMT : Hid (∀ w', Below w.heap.size w w' → Calls Tryd.prog 24 #[.slice A n c] w' fun ev w2 => ev = .returned (.agg vt) ∧ Below w'.heap.size w' w2) := Lib.hid (fun w' h => by
    have := mth_any a B L h32 n 0 n c A w' (Nat.le_refl _) (by omega) (by omega) (HE.out.step h) (by rw [hcut]; exact HI.out.below h)
    rw [Nat.zero_add, z0, hx, evt] at this
    exact this)
  have HFD : Hid (∀ v w', Gr w w' → Rd w' v 2 (coverS (0, (n : Int))).length (coordCells (coverS (0, (n : Int)))) → Calls Tryd.prog 23 #[.agg #[v], .slice A n c] w' fun ev w2 => ev = .returned (.tuple #[.agg vt, .bool true]) ∧ Below w'.heap.size w' w2) := Lib.hid (fun v w' h hv => by
    have := folded_any a B L (coverS (0, (n : Int))) v A n c w' (HE.out.step h) (HI.out.below h) (by omega) hv (cover_in hr (by omega)) (cover_lie hr).2.2.1 (by have := coverL_len 128 (0 : Int).toNat (n : Int).toNat; unfold coverS; simp only; omega)
    have e5 : foldR nodeH zeroH (partI L (coverS (0, (n : Int)))) = x := hfp
    rw [e5, evt] at this
    exact this)
  have hqq : ∀ w, (Op.equalIn 10000 26 (.agg vt) (.agg vt)).run Tryd.prog w = .ok true w := fun w => by rw [eq_hash x x htl htl vt vt evt evt w]; simp
  have HQ := Lib.hid hqq
  have HP1 : Hid (∀ w', Gr w w' → Calls Tryd.prog 14 #[.int .u64 (mq : Int), .int .u64 (n : Int)] w' (PartsPost w' ((pathL 64 mq 0 n).map coverS))) := Lib.hid (fun w' h => plan_path_ok mq n w' (HE.out.step h).tz (HE.out.step h).lo (by omega) (by omega) (by omega))
  have HP2 : Hid (∀ w', Gr w w' → Calls Tryd.prog 16 #[.int .u64 (on : Int), .int .u64 (n : Int)] w' (PartsPost w' ((proofL 64 on 0 n).map coverS))) := Lib.hid (fun w' h => plan_proof_ok on n w' (HE.out.step h).tz (HE.out.step h).lo (by omega) (by omega) (by omega))
  have HP3 : Hid (∀ w', Gr w w' → Calls Tryd.prog 21 #[.int .u64 ((on : Int) - 1), .int .u64 (on : Int), .int .u64 (n : Int)] w' (PartsPost w' ((batchL 64 be on 0 n).map coverS))) := Lib.hid (fun w' h => by rw [show (on : Int) - 1 = (be : Int) by omega]; exact plan_batch_ok be on n w' (HE.out.step h).tz (HE.out.step h).lo (by omega) (by omega) (by omega) (by omega))
  have HW1 : Hid (∀ w', Gr w w' → Calls Tryd.prog 26 #[.int .i64 (mq : Int), .slice A n c] w' (HList w' (treesI L (pathL 64 mq 0 n)))) := Lib.hid (fun w' h => by
    have := path15_any a B L h32 64 0 n mq c A w' hpw2 hmql (by omega) (by omega) (Nat.le_refl _) (HE.out.step h) (by rw [hcut]; exact HI.out.below h)
    rw [Nat.zero_add, Nat.zero_add, z0] at this
    exact this)
  have HW2 : Hid (∀ w', Gr w w' → Calls Tryd.prog 27 #[.int .i64 (on : Int), .slice A n c, .bool true] w' (HList w' (treesI L (proofL 64 on 0 n)))) := Lib.hid (fun w' h => by
    have := sub15_any a B L h32 64 0 n on c A w' hpw2 (by omega) (by omega) (by omega) (by omega) (Nat.le_refl _) (HE.out.step h) (by rw [hcut]; exact HI.out.below h)
    rw [Nat.zero_add, Nat.zero_add, z0] at this
    exact this)
  have HW3 : Hid (∀ w', Gr w w' → Calls Tryd.prog 28 #[.int .i64 ((on : Int) - 1), .int .i64 (on : Int), .int .i64 0, .slice A n c] w' (HList w' (treesI L (batchL 64 be on 0 n)))) := Lib.hid (fun w' h => by
    rw [show (on : Int) - 1 = (be : Int) by omega]; skip
    have := batch15_any a B L h32 be on (by omega) (by omega) (by omega) 64 0 n c A w' hpw2 hn0 (by omega) (by omega) (by omega) (Nat.le_refl _) (HE.out.step h) (by rw [hcut]; exact HI.out.below h)
    rw [Nat.zero_add, z0] at this
    exact this)
  have HV1 : Hid (∀ v v3 base w', Gr w w' → PRd w' v ((pathL 64 mq 0 n).map coverS) → H32 (treesI L (pathL 64 mq 0 n)) → w'.ownsRow base 26 32 v3 (treesI L (pathL 64 mq 0 n)).length (hashCells (treesI L (pathL 64 mq 0 n))) → Calls Tryd.prog 25 #[v, .slice A n c, v3] w' fun ev w2 => ev = .returned (.bool true) ∧ Below w'.heap.size w' w2) := Lib.hid (fun v v3 base w' h h1 h2 h3 =>
    list_proves a B L _ v v3 A n c base w' (HE.out.step h) (HI.out.below h) (by omega) (fun s hs => path_half 64 mq 0 n s hr (by omega) (by omega) hpw hs) (path_spansIn mq n (by omega) (by omega) (by omega)) (by have := pathL_len 64 mq 0 n; omega) h1 h2 h3)
  have HV2 : Hid (∀ v v3 base w', Gr w w' → PRd w' v ((proofL 64 on 0 n).map coverS) → H32 (treesI L (proofL 64 on 0 n)) → w'.ownsRow base 26 32 v3 (treesI L (proofL 64 on 0 n)).length (hashCells (treesI L (proofL 64 on 0 n))) → Calls Tryd.prog 25 #[v, .slice A n c, v3] w' fun ev w2 => ev = .returned (.bool true) ∧ Below w'.heap.size w' w2) := Lib.hid (fun v v3 base w' h h1 h2 h3 =>
    list_proves a B L _ v v3 A n c base w' (HE.out.step h) (HI.out.below h) (by omega) (fun s hs => proof_half 64 on 0 n s hr (by omega) (by omega) hpw hs) (proof_spansIn on n (by omega) (by omega) (by omega)) (by have := proofL_len 64 on 0 n; omega) h1 h2 h3)
  have HV3 : Hid (∀ v v3 base w', Gr w w' → PRd w' v ((batchL 64 be on 0 n).map coverS) → H32 (treesI L (batchL 64 be on 0 n)) → w'.ownsRow base 26 32 v3 (treesI L (batchL 64 be on 0 n)).length (hashCells (treesI L (batchL 64 be on 0 n))) → Calls Tryd.prog 25 #[v, .slice A n c, v3] w' fun ev w2 => ev = .returned (.bool true) ∧ Below w'.heap.size w' w2) := Lib.hid (fun v v3 base w' h h1 h2 h3 =>
    list_proves a B L _ v v3 A n c base w' (HE.out.step h) (HI.out.below h) (by omega) (fun s hs => batch_half 64 be on 0 n s hr hpw hs) (batch_spansIn be on n (by omega) (by omega) (by omega) (by omega)) (by have := batchL_len 64 be on 0 n (by omega) hpw; omega) h1 h2 h3)
  obtain ⟨wz, hwz⟩ : ∃ z, w.alloc (.cells #[.slice A n c, .int .i64 xm, .int .i64 xo, .int .i64 xb] 55) = z := ⟨_, rfl⟩
  have HBZ : Hid (Gr w wz) := Lib.hid (by rw [← hwz]; exact (Gr.refl _).alloc _)
  have rz : wz.heap[w.heap.size]? = some (.cells #[.slice A n c, .int .i64 xm, .int .i64 xo, .int .i64 xb] 55 (0, 0)) := by rw [← hwz]; exact heap_at _ _ _ rfl
  have k0 : wz.cell? ⟨w.heap.size, 0, none⟩ = some (.slice A n c) := by rw [cell_of_row _ _ 0 _ _ _ rz]; rfl
  have k1 : wz.cell? ⟨w.heap.size, 1, none⟩ = some (.int .i64 xm) := by rw [cell_of_row _ _ 1 _ _ _ rz]; rfl
  have k2 : wz.cell? ⟨w.heap.size, 2, none⟩ = some (.int .i64 xo) := by rw [cell_of_row _ _ 2 _ _ _ rz]; rfl
  have k3 : wz.cell? ⟨w.heap.size, 3, none⟩ = some (.int .i64 xb) := by rw [cell_of_row _ _ 3 _ _ _ rz]; rfl
  have HWZ := Lib.hid hwz
  have t0 : ((n : Int) == 0) = false := by simp; omega
  have t1 : (n : Int) ≤ 150 := by omega
  have t2 : (1 : Int) ≤ n := by omega
  have hw64 : IntKind.u64.wrap (n : Int) = n := IntWalk.u64_in _ (by omega)
  have hw64m : IntKind.u64.wrap (mq : Int) = mq := IntWalk.u64_in _ (by omega)
  have hw64o : IntKind.u64.wrap (on : Int) = on := IntWalk.u64_in _ (by omega)
  have hw64b : IntKind.u64.wrap (be : Int) = be := IntWalk.u64_in _ (by omega)
  have ho1 : IntKind.i64.wrap ((oq : Int) + 1) = on := by rw [show (oq : Int) + 1 = on by omega]; exact IntWalk.i64_in _ (by omega)
  have ho3 : IntKind.i64.wrap (on : Int) = on := IntWalk.i64_in _ (by omega)
  have hb1 : (on : Int) ≤ bq := by omega
  have hb2 : IntKind.u64.wrap ((on : Int) - 1) = (on : Int) - 1 := IntWalk.u64_in _ (by omega)
  have hb4 : (0 : Int) ≤ (on : Int) - 1 := by omega
  clear hoe hbo2 hwz rz hE hI h32 hcut hx htl hfp evt hqq e1 e2 e3 hm0 ho0 hb0 hr hpw hpw2 hLn z0
  go_enter Tryd.func6, Tryd.ntmps6
  go_upto_region 1 with fail
  rw [HWZ.out]
  go_wp2_with fail
  refine (HRO.out wz HBZ.out).mono ?_
  rintro ev w1 ⟨A1, m1, c1, rfl, hm1, hr1, b1⟩
  have B1 := Lib.hid (show Gr w w1 from HBZ.out.trans (Below.mono b1 HBZ.out.size))
  have HFD1 := Lib.hid (fun w' (h : Gr w w') (h2 : Below w1.heap.size w1 w') => HFD.out (.slice A1 m1 c1) w' h (by have := hr1.below h2; rw [hm1] at this; rw [hm1]; exact this))
  clear hm1 hr1 b1
  go_wp2_with fail
  refine (HFD1.out _ (B1.out.alloc _) ((Below.refl _ _).alloc (Nat.le_refl _) _)).mono ?_
  rintro ev w2 ⟨rfl, b2⟩
  have B2 := Lib.hid (show Gr w w2 from (B1.out.alloc _).trans (Below.mono b2 (B1.out.alloc _).size))
  clear b2
  go_upto_region 12 with (refine wpList_store_row_any rfl 26 _ _ rfl w2.heap.size vt rfl rfl 26 _ (heap_at _ _ _ rfl) Ivt.out (by rw [Zvt.out]; rfl) Ovt.out ?_; intro wk hbN hgN hsN; have BK := Lib.hid (And.intro hbN hsN); have R8 := Lib.hid hgN; clear hbN hgN hsN)
  have hk8 : w2.heap.size < wk.heap.size := (Array.getElem?_eq_some_iff.1 R8.out).1
  have HBK : Hid (Gr w wk) := Lib.hid ((B2.out.alloc _).trans (BK.out.1.to_below (by have := B2.out.size; simp; omega) (fun k hk q => by have := B2.out.size; omega)))
  have hqq := HQ.out
  refine wp_region_held_drew (S := Gr wk) (by kernel_rfl) (Gr.drew (Gr.refl _)) (fun hHeld => ?_)
  refine wpAnyH_take (i := 0) (v := ?tv12) rfl (by kernel_rfl) (by kernel_rfl) (by kernel_rfl) (fun _ _ _ h => h) (Or.inl ⟨by rfl, ?ty12⟩) (by assumption) ?tr12
  case ty12 => (intro w hSw; (try dsimp only at hSw); go_simp; (try with_reducible rfl))
  try simp only [Act.put, List.getElem_toArray, List.getElem_cons_zero, List.setIfInBounds_toArray, List.set_cons_zero, List.set_cons_succ]
  refine wpAnyH_take (i := 1) (v := ?tv13) rfl (by kernel_rfl) (by kernel_rfl) (by kernel_rfl) (fun _ _ _ h => h) (Or.inl ⟨by rfl, ?ty13⟩) (by assumption) ?tr13
  case ty13 => (intro w hSw; (try dsimp only at hSw); go_simp; (try with_reducible rfl))
  try simp only [Act.put, List.getElem_toArray, List.getElem_cons_zero, List.getElem_cons_succ, List.setIfInBounds_toArray, List.set_cons_zero, List.set_cons_succ]
  refine wpAnyH_take (i := 2) (v := ?tv14) rfl (by kernel_rfl) (by kernel_rfl) (by kernel_rfl) (fun _ _ _ h => h) (Or.inl ⟨by rfl, ?ty14⟩) (by assumption) ?tr14
  case ty14 => (intro w hSw; (try dsimp only at hSw); go_simp; (try with_reducible rfl))
  try simp only [Act.put, List.getElem_toArray, List.getElem_cons_zero, List.getElem_cons_succ, List.setIfInBounds_toArray, List.set_cons_zero, List.set_cons_succ]
  refine wpAnyH_take (i := 3) (v := ?tv15) rfl (by kernel_rfl) (by kernel_rfl) (by kernel_rfl) (fun _ _ _ h => h) (Or.inl ⟨by rfl, ?ty15⟩) (by assumption) ?tr15
  case ty15 => (intro w hSw; (try dsimp only at hSw); go_simp; (try with_reducible rfl))
  try simp only [Act.put, List.getElem_toArray, List.getElem_cons_zero, List.getElem_cons_succ, List.setIfInBounds_toArray, List.set_cons_zero, List.set_cons_succ]
  refine wpAnyH_take (i := 4) (v := ?tv16) rfl (by kernel_rfl) (by kernel_rfl) (by kernel_rfl) (fun _ _ _ h => h) (Or.inl ⟨by rfl, ?ty16⟩) (by assumption) ?tr16
  case ty16 => (intro w hSw; (try dsimp only at hSw); go_simp; (try with_reducible rfl))
  try simp only [Act.put, List.getElem_toArray, List.getElem_cons_zero, List.getElem_cons_succ, List.setIfInBounds_toArray, List.set_cons_zero, List.set_cons_succ]
  refine wpAnyH_take (i := 5) (v := ?tv17) rfl (by kernel_rfl) (by kernel_rfl) (by kernel_rfl) (fun _ _ _ h => h) (Or.inl ⟨by rfl, ?ty17⟩) (by assumption) ?tr17
  case ty17 => (intro w hSw; (try dsimp only at hSw); go_simp; (try with_reducible rfl))
  try simp only [Act.put, List.getElem_toArray, List.getElem_cons_zero, List.getElem_cons_succ, List.setIfInBounds_toArray, List.set_cons_zero, List.set_cons_succ]
  refine wpAnyH_take (i := 6) (v := ?tv18) rfl (by kernel_rfl) (by kernel_rfl) (by kernel_rfl) (fun _ _ _ h => h) (Or.inl ⟨by rfl, ?ty18⟩) (by assumption) ?tr18
  case ty18 => (intro w hSw; (try dsimp only at hSw); go_simp; (try with_reducible rfl))
  try simp only [Act.put, List.getElem_toArray, List.getElem_cons_zero, List.getElem_cons_succ, List.setIfInBounds_toArray, List.set_cons_zero, List.set_cons_succ]
  refine wpAnyH_take (i := 7) (v := _) rfl (by kernel_rfl) (by kernel_rfl) (by kernel_rfl) (fun _ _ _ h => h) (yieldsIf_load_row (by rfl) 26 _ (by rfl) _ (by rfl) 26 vt (0, 0) _ (fun w h => (Below.block h _ hk8).trans R8.out) Tryd.underlying26 rfl Ivt.out) (by assumption) ?_
  try simp only [Act.put, List.getElem_toArray, List.getElem_cons_zero, List.getElem_cons_succ, List.setIfInBounds_toArray, List.set_cons_zero, List.set_cons_succ]
  refine wpAnyH_take (i := 8) (v := ?tv20) rfl (by kernel_rfl) (by kernel_rfl) (by kernel_rfl) (fun _ _ _ h => h) (Or.inl ⟨by rfl, ?ty20⟩) (by assumption) ?tr20
  case ty20 => (intro w hSw; (try dsimp only at hSw); go_simp; (try with_reducible rfl))
  try simp only [Act.put, List.getElem_toArray, List.getElem_cons_zero, List.getElem_cons_succ, List.setIfInBounds_toArray, List.set_cons_zero, List.set_cons_succ]
  refine wpAnyH_ready (rs := [9]) (by kernel_rfl) (by simp) ?_
  refine AllReadyH.cons (i := 9) rfl (fun K2 hK2 => ?_) AllReadyH.nil
  go_simp
  go_at_call 24
  refine (HMT.out wk.drew (HBK.out.trans (Below.mono (show Gr wk wk.drew from (by repeat (first | exact Gr.refl _ | (refine Gr.drew ?_) | (refine Gr.step ?_ (by assumption))))) HBK.out.size))).mono ?_
  rintro ev w102 ⟨rfl, b102⟩
  try go_wp2_with fail
  refine hK2.out _ _ (show Gr wk _ from (by repeat (first | exact Gr.refl _ | (refine Gr.step ?_ (by assumption)) | (refine Gr.alloc ?_ _) | (refine Gr.drew ?_)))) (fun hHeld2 => ?_)
  clear hK2 K2
  try simp only [Act.put, List.getElem_toArray, List.getElem_cons_zero, List.getElem_cons_succ, List.setIfInBounds_toArray, List.set_cons_zero, List.set_cons_succ]
  refine wpAnyH_take (i := 10) (v := ?tv21) rfl (by kernel_rfl) (by kernel_rfl) (by kernel_rfl) (fun _ _ _ h => h) (Or.inl ⟨by rfl, ?ty21⟩) (by assumption) ?tr21
  case ty21 => (intro w hSw; (try dsimp only at hSw); go_simp; (try with_reducible rfl))
  try simp only [Act.put, List.getElem_toArray, List.getElem_cons_zero, List.getElem_cons_succ, List.setIfInBounds_toArray, List.set_cons_zero, List.set_cons_succ]
  refine wpAnyH_take (i := 11) (v := ?tv22) rfl (by kernel_rfl) (by kernel_rfl) (by kernel_rfl) (fun _ _ _ h => h) (Or.inl ⟨by rfl, ?ty22⟩) (by assumption) ?tr22
  case ty22 => (intro w hSw; (try dsimp only at hSw); go_simp; (try with_reducible rfl))
  try simp only [Act.put, List.getElem_toArray, List.getElem_cons_zero, List.getElem_cons_succ, List.setIfInBounds_toArray, List.set_cons_zero, List.set_cons_succ]
  refine wpAnyH_done (by kernel_rfl) ?_ _
  have b9 := (show Below wk.heap.size wk w102 from (Gr.step (Gr.drew (Gr.refl _)) b102))
  obtain ⟨w9, hw9⟩ : ∃ x, w102 = x := ⟨_, rfl⟩
  rw [hw9] at b9 ⊢
  clear hw9 hHeld hHeld2
  have B9 := Lib.hid (show Gr w w9 from HBK.out.trans (Below.mono b9 HBK.out.size))
  clear b9
  go_wp2_with fail
  refine (HP1.out w9 B9.out).mono ?_
  rintro ev w10 ⟨v1, vs1, rfl, o1, p1, _, b10⟩
  have R1 := Lib.hid (prd_hold o1 p1 (by simp))
  have B10 := Lib.hid (show Gr w w10 from B9.out.trans (Below.mono b10 B9.out.size))
  clear o1 p1 b10
  go_wp2_with fail
  refine (HW1.out w10 B10.out).mono ?_
  rintro ev w11 ⟨z1, rfl, h32a, oa, b11⟩
  have B11 := Lib.hid (show Gr w w11 from B10.out.trans (Below.mono b11 B10.out.size))
  have X1 := Lib.hid (HV1.out v1 z1 _ w11 B11.out (R1.out.below b11) h32a oa)
  clear h32a oa b11
  go_wp2_with fail
  refine X1.out.mono ?_
  rintro ev w12 ⟨rfl, b12⟩
  have B12 := Lib.hid (show Gr w w12 from B11.out.trans (Below.mono b12 B11.out.size))
  clear b12
  go_wp2_with fail
  refine (HP2.out w12 B12.out).mono ?_
  rintro ev w13 ⟨v2, vs2, rfl, o2, p2, _, b13⟩
  have R2 := Lib.hid (prd_hold o2 p2 (by simp))
  have B13 := Lib.hid (show Gr w w13 from B12.out.trans (Below.mono b13 B12.out.size))
  clear o2 p2 b13
  go_wp2_with fail
  refine (HW2.out w13 B13.out).mono ?_
  rintro ev w14 ⟨z2, rfl, h32b, ob, b14⟩
  have B14 := Lib.hid (show Gr w w14 from B13.out.trans (Below.mono b14 B13.out.size))
  have X2 := Lib.hid (HV2.out v2 z2 _ w14 B14.out (R2.out.below b14) h32b ob)
  clear h32b ob b14
  go_wp2_with fail
  refine X2.out.mono ?_
  rintro ev w15 ⟨rfl, b15⟩
  have B15 := Lib.hid (show Gr w w15 from B14.out.trans (Below.mono b15 B14.out.size))
  clear b15
  go_wp2_with fail
  refine (HP3.out w15 B15.out).mono ?_
  rintro ev w16 ⟨v3, vs3, rfl, o3, p3, _, b16⟩
  have R3 := Lib.hid (prd_hold o3 p3 (by simp))
  have B16 := Lib.hid (show Gr w w16 from B15.out.trans (Below.mono b16 B15.out.size))
  clear o3 p3 b16
  go_wp2_with fail
  refine (HW3.out w16 B16.out).mono ?_
  rintro ev w17 ⟨z3, rfl, h32c, oc, b17⟩
  have B17 := Lib.hid (show Gr w w17 from B16.out.trans (Below.mono b17 B16.out.size))
  have X3 := Lib.hid (HV3.out v3 z3 _ w17 B17.out (R3.out.below b17) h32c oc)
  clear h32c oc b17
  go_wp2_with fail
  refine X3.out.mono ?_
  rintro ev w18 ⟨rfl, b18⟩
  have B18 := Lib.hid (show Gr w w18 from B17.out.trans (Below.mono b18 B17.out.size))
  clear b18
  go_wp2_with fail
  refine (alive15 a B w18 (HE.out.step B18.out)).mono ?_
  rintro ev w19 ⟨rfl, b19⟩
  go_wp2
  go_ret
  exact ⟨rfl, show Below w.heap.size w w19 from B18.out.trans (Below.mono b19 B18.out.size)⟩

set_option maxRecDepth 100000 in
set_option maxHeartbeats 4000000 in
theorem proves15_out (a : Nat → Addr) (B : Nat) (L : List (List UInt8)) (A : Option Addr) (n c : Nat) (xm xo xb : Int) (w : World) (hE : EnvP B a w) (hn : n ≤ 9000000000000000000) (ho : n = 0 ∨ 150 < n) :
    Calls Tryd.prog 6 #[.agg #[.slice A n c, .int .i64 xm, .int .i64 xo, .int .i64 xb]] w fun ev w' => ev = .returned (.bool true) ∧ Below w.heap.size w w' := by
  obtain ⟨wz, hwz⟩ : ∃ z, w.alloc (.cells #[.slice A n c, .int .i64 xm, .int .i64 xo, .int .i64 xb] 55) = z := ⟨_, rfl⟩
  have HBZ : Hid (Below w.heap.size w wz) := Lib.hid (by rw [← hwz]; exact (Below.refl _ _).alloc (Nat.le_refl _) _)
  have k0 : wz.cell? ⟨w.heap.size, 0, none⟩ = some (.slice A n c) := by rw [← hwz]; exact cell_new _ _ 0 _ rfl
  have HWZ := Lib.hid hwz
  have HEZ := Lib.hid (hE.step HBZ.out)
  clear hwz hE
  by_cases h0 : n = 0
  · subst h0
    clear ho hn
    go_enter Tryd.func6, Tryd.ntmps6
    go_upto_region 1 with fail
    rw [HWZ.out]
    go_wp2_with fail
    refine (alive15 a B wz HEZ.out).mono ?_
    rintro ev wd ⟨rfl, bd⟩
    go_wp2
    go_ret
    exact ⟨rfl, HBZ.out.trans (bd.mono HBZ.out.size)⟩
  · have t0 : ((n : Int) == 0) = false := by simp; omega
    have t1 : ¬ (n : Int) ≤ 150 := by omega
    have t2 : (150 : Int) < n := by omega
    have t3 : (0 : Int) ≤ n := by omega
    clear ho h0 hn
    go_enter Tryd.func6, Tryd.ntmps6
    go_upto_region 1 with fail
    rw [HWZ.out]
    go_wp2_with fail
    refine (alive15 a B wz HEZ.out).mono ?_
    rintro ev wd ⟨rfl, bd⟩
    go_wp2
    go_ret
    exact ⟨rfl, HBZ.out.trans (bd.mono HBZ.out.size)⟩
theorem proves_law (a : Nat → Addr) (B : Nat) (L : List (List UInt8)) (A : Option Addr) (n c : Nat) (xm xo xb : Int) (w : World) (hE : EnvP B a w) (hI : HIn w A n c L) (hn : n ≤ 9000000000000000000) (hm0 : -9223372036854775808 ≤ xm ∧ xm ≤ 9223372036854775807) (ho0 : -9223372036854775808 ≤ xo ∧ xo ≤ 9223372036854775807) (hb0 : -9223372036854775808 ≤ xb ∧ xb ≤ 9223372036854775807) :
    Calls Tryd.prog 6 #[.agg #[.slice A n c, .int .i64 xm, .int .i64 xo, .int .i64 xb]] w fun ev w' => ev = .returned (.bool true) ∧ Below w.heap.size w w' := by
  by_cases h : n = 0 ∨ 150 < n
  · exact proves15_out a B L A n c xm xo xb w hE hn h
  · have q1 := Int.emod_nonneg (xm.tmod n + (n : Int)) (b := (n : Int)) (by omega)
    have q2 := Int.emod_nonneg (xo.tmod n + (n : Int)) (b := (n : Int)) (by omega)
    have q3 := Int.emod_nonneg (xb.tmod n + (n : Int)) (b := (n : Int)) (by omega)
    obtain ⟨mn, e1⟩ : ∃ m : Nat, (xm.tmod n + (n : Int)) % (n : Int) = m := ⟨_, (Int.toNat_of_nonneg q1).symm⟩
    obtain ⟨on, e2⟩ : ∃ m : Nat, (xo.tmod n + (n : Int)) % (n : Int) + 1 = m := ⟨((xo.tmod n + (n : Int)) % (n : Int) + 1).toNat, (Int.toNat_of_nonneg (by omega)).symm⟩
    obtain ⟨bn, e3⟩ : ∃ m : Nat, (xb.tmod n + (n : Int)) % (n : Int) = m := ⟨_, (Int.toNat_of_nonneg q3).symm⟩
    by_cases hbo : on ≤ bn
    · exact proves15_hi a B L A n c xm xo xb w hE hI (by omega) (by omega) hm0 ho0 hb0 mn on bn e1 e2 e3 hbo
    · exact proves15_lo a B L A n c xm xo xb w hE hI (by omega) (by omega) hm0 ho0 hb0 mn on bn e1 e2 e3 (by omega)
end Go.Proofs.YtdodfeoaioolnaaDoor
