/- bits.Powers, its iterator's contract; gather; the reference's Powers; SameNumbers. No condition. -/
import Derived.Test.YtaekhijmnbeahaaPowPlain
import Derived.Test.YtaekhijmnbeahaaBitsLog
import Derived.Test.YtaekhijmnbeahaaMem
import Derived.RangeFuncNested
import Derived.RangeFuncBound
import Derived.RangeFuncBox
import Derived.RangeFuncCalls
import Derived.RangeFuncLeaves
import Derived.Shelf.Abstract
import Derived.Shelf.RegionOpen
import Derived.WalkKit
import Derived.OwnWalkIn
import Derived.TacticsInMore
import Derived.LoopNIn
import Derived.LoopIn
import Derived.Maps.AppendAt
namespace Go.Proofs.Ytaekhijmnbeahaa
open Go.ChangeShapes Go.WideShapes Go.ChangeAt Go.RowKit Go.Shelf
set_option linter.unusedVariables false
attribute [local go_sem] Oper.semAt_some
/-- a power of two below 2^64 -/
abbrev Pw := { x : Int // ∃ j, j < 64 ∧ x = pow2 j }
/-- the powers of two that a number is the sum of -/
def powI (n : Int) : List Int := (powL 64 n.toNat).map fun (p : Nat) => (p : Int)
def restI (k : Nat) (n : Int) : List Int := (powL k (n.toNat % 2 ^ k)).map fun (p : Nat) => (p : Int)
theorem restI_zero (n : Int) : restI 0 n = [] := rfl
theorem restI_all (n : Int) (h : n < 18446744073709551616) : restI 64 n = powI n := by
  unfold restI powI; rw [Nat.mod_eq_of_lt (by omega)]
theorem restI_yes {k : Nat} {n : Int} (h : 2 ^ k ≤ n.toNat % 2 ^ (k + 1)) : restI (k + 1) n = pow2 k :: restI k n := by
  unfold restI
  rw [powL_yes h, List.map_cons, mod_next n.toNat k, if_pos h]; rfl
theorem restI_no {k : Nat} {n : Int} (h : ¬ 2 ^ k ≤ n.toNat % 2 ^ (k + 1)) : restI (k + 1) n = restI k n := by
  unfold restI
  rw [powL_no (by omega), mod_next n.toNat k, if_neg h]
theorem powI_len (n : Int) : (powI n).length ≤ 64 := by unfold powI; rw [List.length_map]; exact powL_len 64 _
/-- the power that the loop is at; behind the last it is 0 -/
def atP : Nat → Int
  | 0 => 0
  | k + 1 => pow2 k
theorem and_at {n : Int} (h0 : 0 ≤ n) (h9 : n < 18446744073709551616) {k : Nat} (hk : k < 64) : bits .and .u64 n (pow2 k) = if 2 ^ k ≤ n.toNat % 2 ^ (k + 1) then pow2 k else 0 := by
  obtain ⟨N, rfl⟩ := Int.eq_ofNat_of_zero_le h0
  have hp := pow2_lt (show k < 64 by omega)
  rw [pow2_64] at hp
  have : bits .and .u64 (N : Int) (pow2 k) = ((N &&& 2 ^ k : Nat) : Int) := and_u64 N (2 ^ k) (by omega) (by unfold pow2 at hp; omega)
  rw [this, and_pow, Int.toNat_natCast]
  split <;> rfl
attribute [irreducible] powI restI
set_option maxRecDepth 100000 in
set_option maxHeartbeats 1000000 in
theorem powers_stops (F : Fence) (m : Nat) (hf : F.fn 74) (hro : F.round = none) (hm : 1 ≤ m) (Bn n₀ : Nat) (n : Int) (h0 : 0 ≤ n) (h9 : n < 18446744073709551616) (w : World) (hBn : Bn < n₀) (hn₀ : n₀ ≤ w.heap.size) (hc : w.cell? ⟨Bn, 0, none⟩ = some (.int .u64 n)) :
    SeqStopsK F m Try.prog 74 #[.pointer (some ⟨Bn, 0, none⟩)] (fun x : Pw => #[Value.int .u64 x.1]) (Below n₀) (fun ys => ys.map (·.1) = powI n) (fun pre => pre.map (·.1) <+: powI n) 64 w := fun l J Jx W hW _ _ hY hJ0 => by
  have hcW : W.cell? ⟨Bn, 0, none⟩ = some (.int .u64 n) := (hW.cell (p := ⟨Bn, 0, none⟩) (by show Bn < _; omega)).trans hc
  refine callsIn_of_wp Try.func74 rfl hf ?_ hro
  simp only [Try.ntmps74, List.size_toArray, List.length_cons, List.length_nil, Nat.reduceAdd, Nat.reduceSub, Array.replicate_succ, Array.replicate_zero, List.push_toArray, List.append_toArray, List.nil_append, List.cons_append]
  gi_wp2
  gi_loopw [3] (fun p wr => ∃ (k : Nat) (P : Int) (pre : List Pw), k ≤ 64 ∧ p = .int .u64 P ∧ Hid (P = atP k) ∧ 0 ≤ P ∧ P ≤ 9223372036854775808 ∧ Hid (pre.map (·.1) ++ restI k n = powI n) ∧ J pre wr ∧ wr.cell? ⟨Bn, 0, none⟩ = some (.int .u64 n)) (fun p _ => (intOf p).toNat)
  case atStart => exact ⟨64, 9223372036854775808, [], Nat.le_refl _, rfl, Lib.hid pow2_63.symm, by omega, by omega, Lib.hid (restI_all n h9), hJ0, hcW⟩
  case round =>
    obtain ⟨k, P, pre, hk, rfl, HP, hP0, hP9, HL, hJ, hcr⟩ := hrel
    cases k with
    | zero =>
      obtain rfl : P = 0 := HP.out
      gi_wp2
      go_end0
      refine ⟨⟨_, rfl⟩, .inl ⟨pre, ?_, hJ⟩⟩
      have := HL.out
      rwa [restI_zero, List.append_nil] at this
    | succ k =>
      have hPk : P = pow2 k := HP.out
      have hpos := pow2_pos k
      have hP1 : 0 < P := by omega
      have hnext : Hid (P / 2 = atP k) := Lib.hid (by
        rw [hPk]
        cases k with
        | zero => rfl
        | succ j => rw [pow2_succ]; show _ = pow2 j; omega)
      have hand := and_at h0 h9 (show k < 64 by omega)
      rw [← hPk] at hand
      by_cases hb : 2 ^ k ≤ n.toNat % 2 ^ (k + 1)
      · rw [if_pos hb] at hand
        have ht : (bits .and .u64 n P != 0) = true := by rw [hand]; simp; omega
        have HR : Hid (pre.map (·.1) ++ [P] ++ restI k n = powI n) := Lib.hid (by have := HL.out; rw [restI_yes hb, ← hPk] at this; simpa using this)
        have hlen : pre.length < 64 := by
          have := congrArg List.length HR.out
          have h1 := powI_len n
          simp at this; omega
        have hPw : ∃ j, j < 64 ∧ P = pow2 j := ⟨k, by omega, hPk⟩
        obtain ⟨fn, tmps, assign, body, hy, hR⟩ := hY pre ⟨P, hPw⟩ wr hJ hlen
        dsimp only at hy hR
        clear hand hb hPk hpos HP HL
        gi_wp2
        refine hR.mono ?_
        rintro e W3 (⟨rfl, hJ3, hk3⟩ | ⟨rfl, hJx3⟩)
        · have hc3 : W3.cell? ⟨Bn, 0, none⟩ = some (.int .u64 n) := (hk3.cell (p := ⟨Bn, 0, none⟩) (by show Bn < _; omega)).trans hcr
          gi_wp2
          go_roundw
          case rel => exact ⟨k, P / 2, _, by omega, rfl, hnext, by omega, by omega, Lib.hid (by simpa using HR.out), hJ3, hc3⟩
          case measure => simp [intOf]; omega
        · gi_wp2
          refine bodyPost_ret (results_none rfl _ _ _) rfl ?_
          exact ⟨⟨_, rfl⟩, .inr ⟨_, ⟨restI k n, by simpa using HR.out⟩, hJx3⟩⟩
      · rw [if_neg hb] at hand
        have ht : (bits .and .u64 n P != 0) = false := by rw [hand]; rfl
        have HR : Hid (pre.map (·.1) ++ restI k n = powI n) := Lib.hid (by have := HL.out; rwa [restI_no hb] at this)
        clear hand hb hPk hpos HP HL
        gi_wp2
        refine ⟨fun _ h => (by cases h), ?_⟩
        gi_wp2
        go_roundw
        case rel => exact ⟨k, P / 2, pre, by omega, rfl, hnext, by omega, by omega, HR, hJ, hcr⟩
        case measure => simp [intOf]; omega
theorem powers_any (n : Int) (w : World) : Calls Try.prog 69 #[.int .u64 n] w fun e w' => e = .returned (.func (.func 74) #[] #[.pointer (some ⟨w.heap.size, 0, none⟩)]) ∧ w' = w.alloc (.cells #[.int .u64 n] 22) := by
  go_enter Try.func69, Try.ntmps69
  go_wp2
  go_ret
  exact ⟨rfl, rfl⟩
theorem info_u64 : (Try.prog.info? 22).map (fun i => (i.zero, i.size, i.bytes)) = some (some (.int .u64 0), 1, 8) := by kernel_rfl
def numV (l : List Int) : List Value := l.map (Value.int .u64)
theorem numV_append (a b : List Int) : numV (a ++ b) = numV a ++ numV b := by simp [numV]
theorem numV_one (l : List Int) : ∀ u ∈ numV l, u.oneCell' = true := by
  intro u hu; simp only [numV, List.mem_map] at hu; obtain ⟨x, _, rfl⟩ := hu; rfl
theorem numV_len (l : List Int) : (numV l).length = l.length := by simp [numV]
def pwI (pre : List Pw) : List Int := pre.map (·.1)
theorem pwI_snoc (pre : List Pw) (x : Pw) : pwI (pre ++ [x]) = pwI pre ++ [x.1] := by simp [pwI]
theorem pwI_len (pre : List Pw) : (pwI pre).length = pre.length := by simp [pwI]
set_option maxRecDepth 100000 in
set_option maxHeartbeats 2000000 in
theorem gather_in (F : Fence) (m : Nat) (hga : F.fn 71) (hf : F.fn 74) (hro : F.round = none) (hm : 3 ≤ m) (Bn : Nat) (n most : Int) (h0 : 0 ≤ n) (h9 : n < 18446744073709551616) (w : World) (hBn : Bn < w.heap.size) (hc : w.cell? ⟨Bn, 0, none⟩ = some (.int .u64 n)) (h1 : 1 ≤ most) (h2 : most ≤ 9223372036854775807) :
    CallsIn F m Try.prog 71 #[.func (.func 74) #[] #[.pointer (some ⟨Bn, 0, none⟩)], .int .i64 most] w fun e W' => ∃ v, e = .returned v ∧ W'.ownsRow w.heap.size 22 1 v ((powI n).take most.toNat).length (numV ((powI n).take most.toNat)) ∧ Below w.heap.size w W' := by
  have hm1 : 1 ≤ m := by omega
  obtain ⟨i0, hi, hz0, hz1, hz2⟩ := info_parts info_u64
  refine callsIn_of_wp_marks Try.func71 rfl hga ?_ hro
  simp only [Try.ntmps71, List.size_toArray, List.length_cons, List.length_nil, Nat.reduceAdd, Nat.reduceSub, Array.replicate_succ, Array.replicate_zero, List.push_toArray, List.append_toArray, List.nil_append, List.cons_append]
  gi_wp2
  have bM := Boxed.new w 3 (.int .i64 most)
  have bO := Boxed.new (w.alloc (.cells #[.int .i64 most] 3)) 84 (.slice none 0 0)
  rw [World.size_alloc] at bO
  have hB0 : Below w.heap.size w ((w.alloc (.cells #[.int .i64 most] 3)).alloc (.cells #[.slice none 0 0] 84)) := ((Below.refl _ w).alloc (Nat.le_refl _) _).alloc (by simp) _
  have bM2 := bM.alloc (.cells #[.slice none 0 0] 84)
  refine wpIn_rangeFunc_ownG hro hm1 (gf := 74) (lb := #[.pointer (some ⟨Bn, 0, none⟩)]) rfl hf (enters_of Try.func74 (by kernel_rfl) rfl)
    (powers_stops F (m - 1) hf hro (by omega) Bn w.heap.size n h0 h9 _ hBn (by simp; omega) (cell_below hB0 hc hBn)) belowK_t (belowK_b (by simp; omega)) (Below.refl _ _) (fun _ => rfl)
    (fun pre W => ((∃ v, Boxed W (w.heap.size + 1) 84 v ∧ W.ownsRow w.heap.size 22 1 v (pwI pre).length (numV (pwI pre)) ∧ (pre.length : Int) < most) ∧ Boxed W w.heap.size 3 (.int .i64 most)) ∧ Below w.heap.size w W)
    (fun c pre W => ((∃ v, Boxed W (w.heap.size + 1) 84 v ∧ W.ownsRow w.heap.size 22 1 v (pwI pre).length (numV (pwI pre)) ∧ ((pre.length : Int) = most ∧ c = .exit 0)) ∧ Boxed W w.heap.size 3 (.int .i64 most)) ∧ Below w.heap.size w W)
    (OwnFrom.and (OwnFrom.and (Own.from (holdsRow_own w.heap.size (w.heap.size + 1) 84 22 1 (fun pre => (pwI pre).length) (fun pre => numV (pwI pre)) (fun pre v => (pre.length : Int) < most)) _) (Own.from (boxed_own _ _ (fun _ => .int .i64 most)) _)) (ownFrom_below (Nat.le_refl _) (by simp; omega)))
    (fun c => OwnFrom.and (OwnFrom.and (Own.from (holdsRow_own w.heap.size (w.heap.size + 1) 84 22 1 (fun pre => (pwI pre).length) (fun pre => numV (pwI pre)) (fun pre v => (pre.length : Int) = most ∧ c = .exit 0)) _) (Own.from (boxed_own _ _ (fun _ => .int .i64 most)) _)) (ownFrom_below (Nat.le_refl _) (by simp; omega)))
    ⟨⟨⟨_, bO, World.ownsRow_nil _ _ _ _, by simp; omega⟩, bM2⟩, hB0⟩
    (fun x => { tmps := #[.func (.func 74) #[] #[.pointer (some ⟨Bn, 0, none⟩)], .int .i64 most, undef, .pointer (some ⟨w.heap.size, 0, none⟩), .slice none 0 0, .pointer (some ⟨w.heap.size + 1, 0, none⟩), .int .u64 x.1, .func (.func 74) #[] #[.pointer (some ⟨Bn, 0, none⟩)], .int .u64 x.1, undef, undef, undef, undef, undef, undef, undef, undef, undef], defers := [] }) ?assign ?body ?done ?stop
  case assign =>
    intro l x W K hK
    gi_wp2
    exact hK
  case body =>
    rintro l pre x W ⟨⟨⟨v, hv, hrow, hlt⟩, hM⟩, hB⟩ hlen
    have hc := hv.cell
    have hcM := hM.cell
    rw [pwI_len] at hrow
    gi_wp2_with (gi_at_builtin; refine wpListIn_append_own _ rfl _ _ 84 rfl w.heap.size 22 i0 (.int .u64 0) 1 8 Try.underlying84 hi hz0 hz1 hz2 rfl (by decide) _ _ _ rfl (hrow.alloc _) ⟨W.heap.size, 0, none⟩ 1 1 [.int .u64 x.1] rfl rfl (cell_one_new _ _ _) (by simp [Value.oneCell']) (by unfold maxLen; omega) (by omega) (by have := hB.size; simp; omega) ?_; intro v' w1 hown' hgrow _; obtain ⟨g', cap', rfl⟩ := ownsRow_succ hown'; obtain ⟨hv1, hv2, hr2, hk2, hb2⟩ := hv.appended (by decide) hrow hB.size (by omega) hown' hgrow; have hM1 := (hM.alloc _).kept hgrow (hM.not_row (by decide) hrow); have hM2 := hM1.other (B' := w.heap.size + 1) (by omega) (.slice (some ⟨g', 0, none⟩) (pre.length + 1) cap'); have hc1 := hv1.cell; have hf1 := hv1.frozen; have hm1' := hM1.cell)
    · exact ⟨hk2.from _, ⟨⟨_, hv2, own_congr hr2 (by rw [pwI_len]; simp) (by rw [pwI_snoc]; simp [numV]), by simp; omega, rfl⟩, hM2⟩, hB.trans hb2⟩
    · exact ⟨hk2.from _, hb2, ⟨⟨_, hv2, own_congr hr2 (by rw [pwI_len]; simp) (by rw [pwI_snoc]; simp [numV]), by simp; omega⟩, hM2⟩, hB.trans hb2⟩
  case done =>
    rintro D xs W hD hxs ⟨⟨⟨v, hv, hrow, hlt⟩, hM⟩, hB⟩ hK
    have hc := hv.cell
    have HT : Hid ((powI n).take most.toNat = pwI xs) := Lib.hid (by
      rw [← hxs]; exact List.take_of_length_le (by simp; omega))
    clear hxs
    gi_wp2
    refine ⟨by simp, .inl ⟨_, _, rfl, run_takeDeferred hK, ?_⟩⟩
    exact ⟨_, results_tmp rfl _ _ _, v, rfl, own_congr (ownsRow_putObj hrow _ hK rfl) (by rw [HT.out]) (by rw [HT.out]), hB.trans (belowK_b (w := w) (Nat.le_refl _) W D _ _ (by simp at hD; omega) hK rfl rfl)⟩
  case stop =>
    rintro D c pre W hD hpre ⟨⟨⟨v, hv, hrow, hl, rfl⟩, hM⟩, hB⟩ hK
    have hc := hv.cell
    have HT : Hid ((powI n).take most.toNat = pwI pre) := Lib.hid (by
      have := List.prefix_iff_eq_take.1 hpre
      rw [List.length_map, show pre.length = most.toNat by omega] at this
      exact this.symm)
    clear hpre
    gi_wp2
    refine ⟨by simp, .inl ⟨_, _, rfl, run_takeDeferred hK, ?_⟩⟩
    exact ⟨_, results_tmp rfl _ _ _, v, rfl, own_congr (ownsRow_putObj hrow _ hK rfl) (by rw [HT.out]) (by rw [HT.out]), hB.trans (belowK_b (w := w) (Nat.le_refl _) W D _ _ (by simp at hD; omega) hK rfl rfl)⟩
theorem gather_any (Bn : Nat) (n most : Int) (h0 : 0 ≤ n) (h9 : n < 18446744073709551616) (w : World) (hBn : Bn < w.heap.size) (hc : w.cell? ⟨Bn, 0, none⟩ = some (.int .u64 n)) (h1 : 1 ≤ most) (h2 : most ≤ 9223372036854775807) :
    Calls Try.prog 71 #[.func (.func 74) #[] #[.pointer (some ⟨Bn, 0, none⟩)], .int .i64 most] w fun e W' => ∃ v, e = .returned v ∧ W'.ownsRow w.heap.size 22 1 v ((powI n).take most.toNat).length (numV ((powI n).take most.toNat)) ∧ Below w.heap.size w W' :=
  callsIn_wide.1 (gather_in Fence.wide 3 trivial trivial rfl (by omega) Bn n most h0 h9 w hBn hc h1 h2)
end Go.Proofs.Ytaekhijmnbeahaa
