/- The law BitsTold. No condition. -/
import Derived.Test.YtaekhijmnbeahaaPowersLaw
import Derived.Test.YtaekhijmnbeahaaBitsAlive
import Derived.StillTailTactics
namespace Go.Proofs.Ytaekhijmnbeahaa
open Go.ChangeShapes Go.WideShapes Go.ChangeAt Go.RowKit Go.Shelf
set_option linter.unusedVariables false
attribute [local go_sem] Oper.semAt_some
/-- what the loop has added up; what came last -/
def sumW (pre : List Pw) : Int := pre.foldl (fun s x => IntKind.u64.wrap (s + x.1)) 0
def lastW (pre : List Pw) : Int := (pre.getLast?.map (·.1)).getD 0
theorem sumW_nil : sumW [] = 0 := rfl
theorem lastW_nil : lastW [] = 0 := rfl
theorem sumW_snoc (pre : List Pw) (x : Pw) : sumW (pre ++ [x]) = IntKind.u64.wrap (sumW pre + x.1) := by simp [sumW]
theorem lastW_snoc (pre : List Pw) (x : Pw) : lastW (pre ++ [x]) = x.1 := by simp [lastW]
theorem snoc_cases {α : Type} (l : List α) : l = [] ∨ ∃ q x, l = q ++ [x] := by
  rcases List.eq_nil_or_concat l with h | ⟨q, x, h⟩
  · exact .inl h
  · exact .inr ⟨q, x, by simpa using h⟩
theorem sumW_bd (pre : List Pw) : 0 ≤ sumW pre ∧ sumW pre < 18446744073709551616 := by
  rcases snoc_cases pre with rfl | ⟨q, x, rfl⟩
  · rw [sumW_nil]; omega
  · rw [sumW_snoc, wrap_u64]; omega
theorem pw_bd (x : Pw) : 1 ≤ x.1 ∧ x.1 ≤ 9223372036854775808 := by
  obtain ⟨X, j, hj, rfl⟩ := x
  have h1 := pow2_pos j
  have h2 := pow2_le (show j ≤ 63 by omega)
  rw [pow2_63] at h2
  exact ⟨h1, h2⟩
theorem lastW_bd (pre : List Pw) : 0 ≤ lastW pre ∧ lastW pre ≤ 9223372036854775808 := by
  rcases snoc_cases pre with rfl | ⟨q, x, rfl⟩
  · rw [lastW_nil]; omega
  · rw [lastW_snoc]; have := pw_bd x; omega
theorem sumW_sum : ∀ (k : Nat) (pre : List Pw), pre.length = k → (pwI pre).sum < 18446744073709551616 → sumW pre = (pwI pre).sum ∧ 0 ≤ (pwI pre).sum
  | 0, pre, h, _ => by obtain rfl := List.length_eq_zero_iff.1 h; exact ⟨rfl, by simp [pwI]⟩
  | k + 1, pre, h, hs => by
    rcases snoc_cases pre with rfl | ⟨q, x, rfl⟩
    · simp at h
    · have hx := pw_bd x
      have e : (pwI (q ++ [x])).sum = (pwI q).sum + x.1 := by rw [pwI_snoc]; simp
      rw [e] at hs ⊢
      have ih := sumW_sum k q (by simpa using h) (by omega)
      rw [sumW_snoc, wrap_u64, ih.1]
      omega
attribute [irreducible] sumW lastW
theorem cnt_pow2 {x : Int} (h : ∃ j, j < 64 ∧ x = pow2 j) : cntI x = 1 := by
  obtain ⟨j, hj, rfl⟩ := h
  have := cntF_add 64 j 0 (by omega) (Nat.two_pow_pos j)
  rw [cntF_zero, Nat.add_zero] at this
  have e : (pow2 j).toNat = 2 ^ j := by unfold pow2; exact Int.toNat_natCast _
  unfold cntI
  rw [e]
  unfold cnt
  rw [this]
  rfl
theorem powI_sum (n : Int) (h0 : 0 ≤ n) (h9 : n < 18446744073709551616) : (powI n).sum = n := by
  have h := powL_sum 64 n.toNat (by omega)
  unfold powI
  have : ∀ l : List Nat, (l.map fun (p : Nat) => (p : Int)).sum = (l.sum : Int) := fun l => by
    induction l with
    | nil => rfl
    | cons a r ih => simp [ih]
  rw [this, h]; omega
theorem powI_cnt (n : Int) (h0 : 0 ≤ n) (h9 : n < 18446744073709551616) : ((powI n).length : Int) = cntI n := by
  have h := powL_cnt 64 n.toNat (by omega) (by omega)
  unfold powI cntI
  rw [List.length_map, h]
theorem powI_falls (n : Int) : (powI n).Pairwise (· > ·) := by
  unfold powI
  rw [List.pairwise_map]
  exact (powL_falls 64 n.toNat).imp (fun h => by omega)
/-- a power that is not below the last one does not come -/
theorem not_next {n : Int} {pre : List Pw} {x : Pw} (h0 : 0 < pre.length) (h : lastW pre ≤ x.1) : ¬ pwI (pre ++ [x]) <+: powI n := fun hp => by
  unfold pwI at hp
  rcases snoc_cases pre with rfl | ⟨q, y, rfl⟩
  · simp at h0
  · rw [lastW_snoc] at h
    have hs := (powI_falls n).sublist hp.sublist
    simp only [List.map_append, List.map_cons, List.map_nil, List.append_assoc] at hs
    have := (List.pairwise_append.1 hs).2.1
    simp at this
    omega
/-- so many ones at the end -/
theorem ones_low : ∀ (f x : Nat), x % 2 ^ onesF f x = 2 ^ onesF f x - 1 ∧ (onesF f x < f → x / 2 ^ onesF f x % 2 = 0)
  | 0, x => by simp [onesF]; omega
  | f + 1, x => by
    by_cases h : x % 2 = 1
    · have ih := ones_low f (x / 2)
      have e : onesF (f + 1) x = onesF f (x / 2) + 1 := by rw [onesF, if_pos h]
      rw [e]
      obtain ⟨t, ht⟩ : ∃ t, onesF f (x / 2) = t := ⟨_, rfl⟩
      rw [ht] at ih ⊢
      have hp := Nat.two_pow_pos t
      have hm : x % 2 ^ (t + 1) = x % 2 + 2 * (x / 2 % 2 ^ t) := by rw [Nat.pow_succ, Nat.mul_comm, Nat.mod_mul]
      refine ⟨by rw [hm, ih.1, Nat.pow_succ]; omega, fun hlt => ?_⟩
      rw [Nat.pow_succ, Nat.mul_comm, ← Nat.div_div_eq_div_mul]
      exact ih.2 (by omega)
    · have e : onesF (f + 1) x = 0 := by rw [onesF, if_neg h]
      rw [e]; simp; omega
set_option maxRecDepth 100000 in
set_option maxHeartbeats 4000000 in
theorem told_walk (n : Int) (w : World) (h0 : 0 ≤ n) (h9 : n < 18446744073709551616) :
    Calls Try.prog 10 #[.int .u64 n] w fun e w' => e = .returned (.bool true) ∧ Below w.heap.size w w' := by
  have hfn := func_nil
  refine (callsIn_wide (n := 3)).1 ?_
  refine callsIn_of_wp_marks Try.func10 rfl trivial ?_ rfl
  simp only [Try.ntmps10, List.size_toArray, List.length_cons, List.length_nil, Nat.reduceAdd, Nat.reduceSub, Array.replicate_succ, Array.replicate_zero, List.push_toArray, List.append_toArray, List.nil_append, List.cons_append]
  have bx2 := ((((Boxed.new w 4 (.bool false)).alloc (.cells #[.int .u64 n] 22)).alloc (.cells #[.int .u64 0] 22)).alloc (.cells #[.int .i64 0] 3)).alloc (.cells #[.int .u64 0] 22)
  have bxn := (((Boxed.new (w.alloc (.cells #[.bool false] 4)) 22 (.int .u64 n)).alloc (.cells #[.int .u64 0] 22)).alloc (.cells #[.int .i64 0] 3)).alloc (.cells #[.int .u64 0] 22)
  have bx4 := ((Boxed.new ((w.alloc (.cells #[.bool false] 4)).alloc (.cells #[.int .u64 n] 22)) 22 (.int .u64 0)).alloc (.cells #[.int .i64 0] 3)).alloc (.cells #[.int .u64 0] 22)
  have bx5 := (Boxed.new (((w.alloc (.cells #[.bool false] 4)).alloc (.cells #[.int .u64 n] 22)).alloc (.cells #[.int .u64 0] 22)) 3 (.int .i64 0)).alloc (.cells #[.int .u64 0] 22)
  have bx6 := Boxed.new ((((w.alloc (.cells #[.bool false] 4)).alloc (.cells #[.int .u64 n] 22)).alloc (.cells #[.int .u64 0] 22)).alloc (.cells #[.int .i64 0] 3)) 22 (.int .u64 0)
  have hB0 : Below w.heap.size w (((((w.alloc (.cells #[.bool false] 4)).alloc (.cells #[.int .u64 n] 22)).alloc (.cells #[.int .u64 0] 22)).alloc (.cells #[.int .i64 0] 3)).alloc (.cells #[.int .u64 0] 22)) := (((((Below.refl _ w).alloc (Nat.le_refl _) _).alloc (by simp) _).alloc (by simp; omega) _).alloc (by simp; omega) _).alloc (by simp; omega) _
  have hs0 : (((((w.alloc (.cells #[.bool false] 4)).alloc (.cells #[.int .u64 n] 22)).alloc (.cells #[.int .u64 0] 22)).alloc (.cells #[.int .i64 0] 3)).alloc (.cells #[.int .u64 0] 22)).heap.size = w.heap.size + 5 := by simp
  simp only [World.size_alloc] at bxn bx4 bx5 bx6
  obtain ⟨W0, hW0⟩ : ∃ W0, (((((w.alloc (.cells #[.bool false] 4)).alloc (.cells #[.int .u64 n] 22)).alloc (.cells #[.int .u64 0] 22)).alloc (.cells #[.int .i64 0] 3)).alloc (.cells #[.int .u64 0] 22)) = W0 := ⟨_, rfl⟩
  have HW0 := Lib.hid hW0
  rw [hW0] at bx2 bxn bx4 bx5 bx6 hB0 hs0
  have hs1 : w.heap.size + 1 + 1 ≤ W0.heap.size := by omega
  have HSZ := Lib.hid hs0
  clear hW0 hs0
  gi_wp2_with (first | (refine ⟨trivial, ?_⟩; gi_at_call 69; refine (callsIn_wide.2 (powers_any n _)).mono ?_; rintro e w' ⟨rfl, rfl⟩) | (refine ⟨trivial, ?_⟩; gi_at_call 72; refine (callsIn_wide.2 (alive_any _)).mono ?_; rintro e w' ⟨rfl, rfl⟩))
  rw [HW0.out]
  refine wpIn_rangeFunc_ownG rfl (by omega) (gf := 74) (lb := #[.pointer (some ⟨w.heap.size + 1, 0, none⟩)]) rfl trivial (enters_of Try.func74 (by kernel_rfl) rfl)
    (powers_stops Fence.wide 2 trivial rfl (by omega) (w.heap.size + 1) (w.heap.size + 1 + 1) n h0 h9 W0 (by omega) hs1 bxn.cell) belowK_t (belowK_b hs1) (Below.refl _ _) (fun _ => rfl)
    (fun pre W => (((Boxed W (w.heap.size + 1 + 1) 22 (.int .u64 (sumW pre)) ∧ Boxed W (w.heap.size + 1 + 1 + 1) 3 (.int .i64 pre.length)) ∧ Boxed W (w.heap.size + 1 + 1 + 1 + 1) 22 (.int .u64 (lastW pre))) ∧ Boxed W w.heap.size 4 (.bool false)) ∧ Below w.heap.size w W)
    (fun (c : Code) (pre : List Pw) (W : World) => ¬ pwI pre <+: powI n)
    (OwnFrom.and (OwnFrom.and (OwnFrom.and (OwnFrom.and (Own.from (boxed_own _ _ (fun pre => .int .u64 (sumW pre))) _) (Own.from (boxed_own _ _ (fun (pre : List Pw) => .int .i64 pre.length)) _)) (Own.from (boxed_own _ _ (fun pre => .int .u64 (lastW pre))) _)) (Own.from (boxed_own _ _ (fun _ => .bool false)) _)) (ownFrom_below (Nat.le_refl _) (by omega)))
    (fun _ _ _ _ _ hs _ _ => hs)
    ⟨⟨⟨⟨by rw [sumW_nil]; exact bx4, bx5⟩, by rw [lastW_nil]; exact bx6⟩, bx2⟩, hB0⟩
    (fun x => { tmps := #[.int .u64 n, undef, .pointer (some ⟨w.heap.size, 0, none⟩), .func (.func 74) #[] #[.pointer (some ⟨w.heap.size + 1, 0, none⟩)], .pointer (some ⟨w.heap.size + 1 + 1, 0, none⟩), .pointer (some ⟨w.heap.size + 1 + 1 + 1, 0, none⟩), .pointer (some ⟨w.heap.size + 1 + 1 + 1 + 1, 0, none⟩), .int .u64 x.1, undef, .int .u64 n, .func (.func 74) #[] #[.pointer (some ⟨w.heap.size + 1, 0, none⟩)], .bool true, .bool false, .bool false, .func (.func 74) #[] #[.pointer (some ⟨w.heap.size + 1, 0, none⟩)], .bool false, .bool false, .func (.func 74) #[] #[.pointer (some ⟨w.heap.size + 1, 0, none⟩)], .int .u64 x.1, undef, undef, undef, undef, undef, undef, undef, undef, undef, undef, undef, undef, undef, undef, undef, undef, undef, undef, undef, undef, undef, undef, undef, undef, undef, undef, undef, undef, undef, undef, undef, undef, undef, undef, undef, undef, undef, undef, undef, undef, undef, undef, undef, undef, undef, undef, undef, undef, undef, undef, undef, undef, undef, undef, undef, undef, undef, undef, undef, undef, undef], defers := [] }) ?assign ?body ?done ?stop
  case assign =>
    intro l x W K hK
    gi_wp2
    exact hK
  case body =>
    rintro l pre x W ⟨⟨⟨⟨b4, b5⟩, b6⟩, b2⟩, hB⟩ hlen
    have hx := pw_bd x
    have HC := Lib.hid (cnt_pow2 x.2)
    have hsb := sumW_bd pre
    have hlb := lastW_bd pre
    have c4 := b4.cell
    have c5 := b5.cell
    have c6 := b6.cell
    have f4 := b4.frozen
    have f5 := b5.frozen
    have f6 := b6.frozen
    have f2 := b2.frozen
    have c2 := b2.cell
    have HN := Lib.hid (fun h1 h2 => not_next (n := n) (pre := pre) (x := x) h1 h2)
    have HSN := Lib.hid (And.intro (sumW_snoc pre x) (lastW_snoc pre x))
    obtain ⟨X, hX⟩ : ∃ X, x.1 = X := ⟨_, rfl⟩
    rw [hX] at hx HC HN HSN
    have HX := Lib.hid hX
    obtain ⟨S, hS⟩ : ∃ S, sumW pre = S := ⟨_, rfl⟩
    obtain ⟨Z, hZ⟩ : ∃ Z, lastW pre = Z := ⟨_, rfl⟩
    obtain ⟨k, hk⟩ : ∃ k, pre.length = k := ⟨_, rfl⟩
    rw [hS] at c4 hsb HSN b4
    rw [hZ] at c6 hlb HN b6
    rw [hk] at c5 hlen HN b5
    have HK := Lib.hid hk
    have hk64 : (k : Int) < 64 := by omega
    rw [hX]
    clear hX hS hZ hk
    have HG : Hid (KeepsFrom W0.heap.size W (((W.setCell ⟨(w.heap.size + 1 + 1 + 1 + 1), 0, none⟩ (.int .u64 X)).setCell ⟨(w.heap.size + 1 + 1), 0, none⟩ (.int .u64 (IntKind.u64.wrap (S + X)))).setCell ⟨(w.heap.size + 1 + 1 + 1), 0, none⟩ (.int .i64 (k + 1))) ∧ Below (w.heap.size + 1 + 1) W (((W.setCell ⟨(w.heap.size + 1 + 1 + 1 + 1), 0, none⟩ (.int .u64 X)).setCell ⟨(w.heap.size + 1 + 1), 0, none⟩ (.int .u64 (IntKind.u64.wrap (S + X)))).setCell ⟨(w.heap.size + 1 + 1 + 1), 0, none⟩ (.int .i64 (k + 1))) ∧
      (fun pre W => (((Boxed W (w.heap.size + 1 + 1) 22 (.int .u64 (sumW pre)) ∧ Boxed W (w.heap.size + 1 + 1 + 1) 3 (.int .i64 pre.length)) ∧ Boxed W (w.heap.size + 1 + 1 + 1 + 1) 22 (.int .u64 (lastW pre))) ∧ Boxed W w.heap.size 4 (.bool false)) ∧ Below w.heap.size w W) (pre ++ [x]) (((W.setCell ⟨(w.heap.size + 1 + 1 + 1 + 1), 0, none⟩ (.int .u64 X)).setCell ⟨(w.heap.size + 1 + 1), 0, none⟩ (.int .u64 (IntKind.u64.wrap (S + X)))).setCell ⟨(w.heap.size + 1 + 1 + 1), 0, none⟩ (.int .i64 (k + 1)))) := Lib.hid (by
      refine ⟨(((KeepsOthers.setCell _ _ _).trans (KeepsOthers.setCell _ _ _)).trans (KeepsOthers.setCell _ _ _)).from _, (((Below.refl _ W).setCell (p := ⟨(w.heap.size + 1 + 1 + 1 + 1), 0, none⟩) (by show _ ≤ (w.heap.size + 1 + 1 + 1 + 1); omega) _).setCell (p := ⟨(w.heap.size + 1 + 1), 0, none⟩) (by show _ ≤ (w.heap.size + 1 + 1); omega) _).setCell (p := ⟨(w.heap.size + 1 + 1 + 1), 0, none⟩) (by show _ ≤ (w.heap.size + 1 + 1 + 1); omega) _, ⟨⟨⟨?_, ?_⟩, ?_⟩, ?_⟩, ((hB.setCell (p := ⟨(w.heap.size + 1 + 1 + 1 + 1), 0, none⟩) (by show _ ≤ (w.heap.size + 1 + 1 + 1 + 1); omega) _).setCell (p := ⟨(w.heap.size + 1 + 1), 0, none⟩) (by show _ ≤ (w.heap.size + 1 + 1); omega) _).setCell (p := ⟨(w.heap.size + 1 + 1 + 1), 0, none⟩) (by show _ ≤ (w.heap.size + 1 + 1 + 1); omega) _⟩
      · rw [HSN.out.1]; exact ((b4.other (by omega) _).set _).other (by omega) _
      · rw [show ((pre ++ [x]).length : Int) = (k : Int) + 1 by simp [HK.out]]; exact ((b5.other (by omega) _).other (by omega) _).set _
      · rw [HSN.out.2]; exact ((b6.set _).other (by omega) _).other (by omega) _
      · exact ((b2.other (by omega) _).other (by omega) _).other (by omega) _)
    have h1n : (1 : Nat) ≤ 3 - 1 - 1 := by omega
    by_cases hk0 : 0 < k
    · have hk0' : (0 : Int) < k := by omega
      by_cases hge : Z ≤ X
      · have HNN := Lib.hid (HN.out hk0 hge)
        gi_wp2_with (refine ⟨trivial, ?_⟩; gi_at_call 60; refine (CallsIn.inRound l (callsIn_wide.2 (cnt_A64' X _ (by omega) (by omega)))).mono ?_; rintro e w' ⟨rfl, rfl⟩; rw [HC.out])
        exact ⟨(KeepsOthers.setCell _ _ _).from _, HNN.out⟩
      · have hlt : X < Z := by omega
        gi_wp2_with (refine ⟨trivial, ?_⟩; gi_at_call 60; refine (CallsIn.inRound l (callsIn_wide.2 (cnt_A64' X _ (by omega) (by omega)))).mono ?_; rintro e w' ⟨rfl, rfl⟩; rw [HC.out])
        exact HG.out
    · have hk0' : decide ((0 : Int) < k) = false := by simp; omega
      gi_wp2_with (refine ⟨trivial, ?_⟩; gi_at_call 60; refine (CallsIn.inRound l (callsIn_wide.2 (cnt_A64' X _ (by omega) (by omega)))).mono ?_; rintro e w' ⟨rfl, rfl⟩; rw [HC.out])
      exact HG.out
  case stop =>
    rintro D c pre W hD hp hn hK
    exact absurd hp hn
  case done =>
    rintro D xs W hD hxs ⟨⟨⟨⟨b4, b5⟩, b6⟩, b2⟩, hB⟩ hK
    have hsum : sumW xs = n := by
      have hp := powI_sum n h0 h9
      rw [show (powI n).sum = (pwI xs).sum by rw [← hxs]; rfl] at hp
      rw [(sumW_sum _ xs rfl (by rw [hp]; exact h9)).1, hp]
    have hcnt : (xs.length : Int) = cntI n := by
      rw [← powI_cnt n h0 h9, ← hxs]; simp
    rw [hsum] at b4
    rw [hcnt] at b5
    have c4 := b4.cell
    have c5 := b5.cell
    have c2 := b2.cell
    have f2 := b2.frozen
    have hob := onesI_bd n
    have hcb := cntI_bd n
    clear hxs hsum hcnt
    gi_wp2_with (refine ⟨trivial, ?_⟩; gi_at_call 52; refine (callsIn_wide.2 (ones_A64' n _ h0 h9)).mono ?_; rintro e w' ⟨rfl, rfl⟩)
    refine wpIn_wide.2 ?_
    obtain ⟨o, ho⟩ : ∃ o : Nat, onesI n = o := ⟨(onesI n).toNat, by omega⟩
    have hlow : Hid (n.toNat % 2 ^ o = 2 ^ o - 1 ∧ (o < 64 → n.toNat / 2 ^ o % 2 = 0)) := Lib.hid (by
      have := ones_low 64 n.toNat
      unfold onesI ones at ho
      have e : onesF 64 n.toNat = o := by omega
      rwa [e] at this)
    rw [ho] at hob ⊢
    clear ho
    have hob1 : o ≤ 64 := by omega
    have t1 : (n != n) = false := by simp
    have t2 : (cntI n != cntI n) = false := by simp
    have t3 : decide ((o : Int) < 0) = false := by simp
    have t4 : decide ((64 : Int) < (o : Int)) = false := by simp; omega
    have HCNT := Lib.hid (fun w => cnt_A64' n w h0 h9)
    go_quiet ((go_at_call 60; exact Calls.quiet_of_same ((HCNT.out _).mono (fun _ _ h => ⟨h.1, h.2.symm⟩))))
    have hBn : Unit → Below w.heap.size w (W.drewN nq) := fun _ => below_drewN hB
    have hKn : (W.drewN nq).heap[D]? = some (.deferred (some [])) := hK
    have cn : (W.drewN nq).cell? ⟨w.heap.size, 0, none⟩ = some (.bool false) := c2
    have fn : (W.drewN nq).frozen? ⟨w.heap.size, 0, none⟩ = false := f2
    have b2n : Boxed (W.drewN nq) w.heap.size 4 (.bool false) := b2
    obtain ⟨Wn, hWn⟩ : ∃ Wn, W.drewN nq = Wn := ⟨_, rfl⟩
    rw [hWn] at hBn hKn cn fn b2n ⊢
    clear hWn c2 f2 c4 c5 b2 b4 b5 b6 hK hB t1 t2 t3 t4
    by_cases h64 : o = 64
    · subst h64
      have hn : (n == 18446744073709551615) = true := by have := hlow.out.1; simp at this ⊢; omega
      have q : (((64 : Nat) : Int) == 64) = true := rfl
      gi_wp2
      have hK2 := (KeepsOthers.setCell Wn ⟨w.heap.size, 0, none⟩ (.bool true)).same D _ hKn rfl
      refine ⟨by simp, .inl ⟨_, _, rfl, run_takeDeferred hK2, ?_⟩⟩
      have b3 := b2n.set (.bool true)
      have c3 := cell_kept b3.cell (grownBy_putObj' _ D (.deferred none)) (fun r e => by cases e; exact ⟨_, hK2, rfl⟩)
      have hB3 := ((hBn ()).setCell (p := ⟨w.heap.size, 0, none⟩) (Nat.le_refl _) (.bool true)).trans (belowK_b (w := w) (Nat.le_refl _) _ D _ (.deferred none) (by have := HSZ.out; omega) hK2 rfl rfl)
      obtain ⟨Wz, hWz⟩ : ∃ Wz, (Wn.setCell ⟨w.heap.size, 0, none⟩ (.bool true)).putObj D (.deferred none) = Wz := ⟨_, rfl⟩
      rw [hWz] at c3 hB3 ⊢
      clear hWz
      exact ⟨.bool true, by simp [results, Try.results10, go_sem, c3], rfl, hB3⟩
    · have q : ((o : Int) == 64) = false := by simp; omega
      have hp64 : 2 ^ o < 2 ^ 64 := Nat.pow_lt_pow_right (by omega) (by omega)
      have hpp := Nat.two_pow_pos o
      have w1 : IntKind.u64.wrap ((2 : Int) ^ o) = ((2 ^ o : Nat) : Int) := by
        rw [show ((2 : Int) ^ o) = ((2 ^ o : Nat) : Int) by simp]; exact IntWalk.u64_in _ (by omega)
      have w2 : IntKind.u64.wrap (IntKind.u64.wrap ((2 : Int) ^ o) - 1) = ((2 ^ o - 1 : Nat) : Int) := by
        rw [w1, show ((2 ^ o : Nat) : Int) - 1 = ((2 ^ o - 1 : Nat) : Int) by omega]; exact IntWalk.u64_in _ (by omega)
      have e1 : (bits .and .u64 n (IntKind.u64.wrap (IntKind.u64.wrap ((2 : Int) ^ o) - 1)) == IntKind.u64.wrap (IntKind.u64.wrap ((2 : Int) ^ o) - 1)) = true := by
        have hlo := hlow.out.1
        obtain ⟨N, rfl⟩ := Int.eq_ofNat_of_zero_le h0
        rw [w2, and_u64 N (2 ^ o - 1) (by omega) (by omega), Nat.and_two_pow_sub_one_eq_mod]
        rw [Int.toNat_natCast] at hlo
        rw [hlo]; simp
      have e2 : (bits .and .u64 (n / (2 : Int) ^ o) 1 == 0) = true := by
        have hhi := hlow.out.2 (by omega)
        obtain ⟨N, rfl⟩ := Int.eq_ofNat_of_zero_le h0
        rw [Int.toNat_natCast] at hhi
        have hN : N / 2 ^ o < 18446744073709551616 := Nat.lt_of_le_of_lt (Nat.div_le_self _ _) (by omega)
        rw [show (N : Int) / (2 : Int) ^ o = ((N / 2 ^ o : Nat) : Int) by simp, show (1 : Int) = ((1 : Nat) : Int) from rfl, and_u64 _ 1 hN (by omega), Nat.and_one_is_mod, hhi]; rfl
      clear w1 w2 hp64 hpp
      gi_wp2
      refine wpIn_wide.2 ?_
      go_still_tail 16, (by kernel_rfl)
      change wpList _ _ _ _ _ Wn.drew
      have hBd : Unit → Below w.heap.size w Wn.drew := fun _ => (hBn ()).drew
      have hKd : Wn.drew.heap[D]? = some (.deferred (some [])) := hKn
      have cd : Wn.drew.cell? ⟨w.heap.size, 0, none⟩ = some (.bool false) := cn
      have fd : Wn.drew.frozen? ⟨w.heap.size, 0, none⟩ = false := fn
      have b2d : Boxed Wn.drew w.heap.size 4 (.bool false) := b2n
      obtain ⟨Wd, hWd⟩ : ∃ Wd, Wn.drew = Wd := ⟨_, rfl⟩
      rw [hWd] at hBd hKd cd fd b2d ⊢
      clear hWd e1 e2 hBn hKn cn fn b2n
      go_wp2
      gi_wp2
      have hK2 := (KeepsOthers.setCell Wd ⟨w.heap.size, 0, none⟩ (.bool true)).same D _ hKd rfl
      refine ⟨by simp, .inl ⟨_, _, rfl, run_takeDeferred hK2, ?_⟩⟩
      have b3 := b2d.set (.bool true)
      have c3 := cell_kept b3.cell (grownBy_putObj' _ D (.deferred none)) (fun r e => by cases e; exact ⟨_, hK2, rfl⟩)
      have hB3 := ((hBd ()).setCell (p := ⟨w.heap.size, 0, none⟩) (Nat.le_refl _) (.bool true)).trans (belowK_b (w := w) (Nat.le_refl _) _ D _ (.deferred none) (by have := HSZ.out; omega) hK2 rfl rfl)
      obtain ⟨Wz, hWz⟩ : ∃ Wz, (Wd.setCell ⟨w.heap.size, 0, none⟩ (.bool true)).putObj D (.deferred none) = Wz := ⟨_, rfl⟩
      rw [hWz] at c3 hB3 ⊢
      clear hWz
      exact ⟨.bool true, by simp [results, Try.results10, go_sem, c3], rfl, hB3⟩
end Go.Proofs.Ytaekhijmnbeahaa
