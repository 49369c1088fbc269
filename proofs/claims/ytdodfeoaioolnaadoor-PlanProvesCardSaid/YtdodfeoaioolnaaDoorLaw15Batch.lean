import Derived.Test.YtdodfeoaioolnaaDoorMthFns
/- cartularylaw15.path, sub: by the definition. Condition: the package-level variables read as listed. -/
namespace Go.Proofs.YtdodfeoaioolnaaDoor
open Go.ChangeShapes Go.WideShapes Go.ChangeAt Go.RowKit
set_option linter.unusedVariables false
/-- a call that hands back a new list of hashes -/
def HList (w : World) (l : List (List UInt8)) (ev : Ending) (w' : World) : Prop := ∃ v, ev = .returned v ∧ H32 l ∧ w'.ownsRow w.heap.size 26 32 v l.length (hashCells l) ∧ Below w.heap.size w w'
theorem news_at {w : World} {g : Nat} {t : TypeId} {p : List UInt8} {cs : Array Value} (h : w.heap[g]? = some (.cells cs t (0, 0))) (hc : (bytesV p).toArray = cs) : ∀ j u, (bytesV p)[j]? = some u → w.cell? ((⟨g, 0, none⟩ : Addr).add j) = some u := fun j u hj => by
  rw [addr_add, cell_of_row w g j _ t (0, 0) h, ← hc]
  simpa using hj
/-- the hashes of stretches -/
def treesI (L : List (List UInt8)) (l : List (Int × Int)) : List (List UInt8) := l.map fun s => treeI L s.1 s.2
theorem treesI_append (L : List (List UInt8)) (l m : List (Int × Int)) : treesI L (l ++ m) = treesI L l ++ treesI L m := by simp [treesI]
theorem hlist_nil (w : World) : HList w [] (.returned (.slice none 0 0)) w := ⟨_, rfl, H32.nil, World.ownsRow_nil _ _ _ _, Below.refl _ _⟩
set_option maxRecDepth 100000 in
set_option maxHeartbeats 8000000 in
theorem path15_any (a : Nat → Addr) (B : Nat) (L : List (List UInt8)) (hL : H32 L) : ∀ (F b n m c : Nat) (A : Option Addr) (w : World), (n : Int) ≤ pow2 F → m < n → b + n ≤ L.length → n ≤ 1000 → F ≤ 64 → EnvP B a w → HIn w A n c (cut L b n) →
    Calls Tryd.prog 26 #[.int .i64 (m : Int), .slice A n c] w (HList w (treesI L (pathL F (b + m : Nat) b (b + n : Nat)))) := by
  intro F
  induction F with
  | zero =>
    intro b n m c A w hF hm hbn hn h64 hE hI
    rw [pow2_zero] at hF
    obtain rfl : n = 1 := by omega
    have e : treesI L (pathL 0 (b + m : Nat) b (b + 1 : Nat)) = [] := rfl
    rw [e]
    clear e hE hI
    go_enter Tryd.func26, Tryd.ntmps26
    go_wp2
    go_ret
    exact hlist_nil w
  | succ F ih =>
    intro b n m c A w hF hm hbn hn h64 hE hI
    by_cases h1 : n = 1
    · subst h1
      have e : treesI L (pathL (F + 1) (b + m : Nat) b (b + 1 : Nat)) = [] := by rw [pathL, if_pos (by omega)]; rfl
      rw [e]
      clear e hE hI ih
      go_enter Tryd.func26, Tryd.ntmps26
      go_wp2
      go_ret
      exact hlist_nil w
    · have t1 : ((n : Int) == 1) = false := by simp; omega
      have hpL : pathL (F + 1) (b + m : Nat) b (b + n : Nat) = if (((b + m : Nat) : Int)) < (b : Int) + blwI (((b + n : Nat) : Int) - (b : Int)) then pathL F (b + m : Nat) b (b + blwI (((b + n : Nat) : Int) - (b : Int))) ++ [((b : Int) + blwI (((b + n : Nat) : Int) - (b : Int)), ((b + n : Nat) : Int))] else pathL F (b + m : Nat) (b + blwI (((b + n : Nat) : Int) - (b : Int))) (b + n : Nat) ++ [((b : Int), (b : Int) + blwI (((b + n : Nat) : Int) - (b : Int)))] := by
        rw [pathL, if_neg (by omega)]
      obtain ⟨R, hR⟩ : ∃ R, treesI L (pathL (F + 1) (b + m : Nat) b (b + n : Nat)) = R := ⟨_, rfl⟩
      rw [hR]
      rw [hpL] at hR
      clear hpL
      · skip
        have hk1 := blw_lt (n := n) (by omega)
        have hk0 := blw_pos n
        have hk2 := blw_dbl (n := n) (by omega)
        have HHA := Lib.hid (fun w' => half_any n w' (by omega) (by omega))
        have hkF := blwI_le_pow (n := (n : Int)) (f := F) (by omega) hF
        obtain ⟨k, hk⟩ : ∃ k, blw n = k := ⟨_, rfl⟩
        have hbl : blwI (n : Int) = (k : Int) := by rw [← hk]; unfold blwI; rw [Int.toNat_natCast]
        rw [hk] at hk1 hk0 hk2 HHA
        rw [hbl] at hkF
        have hbk : blwI (((b + n : Nat) : Int) - (b : Int)) = (k : Int) := by rw [show ((b + n : Nat) : Int) - (b : Int) = (n : Int) by omega, hbl]
        obtain ⟨y, hy⟩ : ∃ y, (cut L b n)[0]? = some y := ⟨_, List.getElem?_eq_getElem (by rw [cut_len hbn]; omega)⟩
        obtain ⟨g, o, rfl, gl, ry, yl⟩ := hI.row hy
        have hnc := hI.2.2.1
        have l1 := treeI_len hL b (b + k : Nat) (by omega) (by omega) (by omega) (by rw [pow2_64]; omega)
        have l2 := treeI_len hL (b + k : Nat) (b + n : Nat) (by omega) (by omega) (by omega) (by rw [pow2_64]; omega)
        have hI1 := hin_take hI (k := k) (by omega)
        rw [cut_take _ _ _ _ (by omega)] at hI1
        have hI2 := hin_drop hI (k := k) (by omega)
        rw [cut_drop _ _ _ _ (by omega)] at hI2
        have HI1 := Lib.hid hI1
        have HI2 := Lib.hid hI2
        have HE := Lib.hid hE
        have im1 : ∀ w', Gr w w' → Calls Tryd.prog 24 #[.slice (some ⟨g, o, none⟩) k c] w' fun ev w2 => ev = .returned (hv (treeI L b (b + k : Nat))) ∧ Below w'.heap.size w' w2 := fun w' h => mth_any a B L hL k b k c _ w' (Nat.le_refl _) (by omega) (by omega) (HE.out.step h) (HI1.out.below h)
        have im2 : ∀ w', Gr w w' → Calls Tryd.prog 24 #[.slice (some ⟨g, o + k * 32, none⟩) (n - k) (c - k)] w' fun ev w2 => ev = .returned (hv (treeI L (b + k : Nat) (b + n : Nat))) ∧ Below w'.heap.size w' w2 := fun w' h => by
          have := mth_any a B L hL (n - k) (b + k) (n - k) (c - k) _ w' (Nat.le_refl _) (by omega) (by omega) (HE.out.step h) (HI2.out.below h)
          rwa [show b + k + (n - k) = b + n by omega] at this
        have e1 : ((b : Nat) : Int) + (k : Int) = ((b + k : Nat) : Int) := by omega
        have i1 : (k : Int) ≤ n := by omega
        have i2 : (n : Int) ≤ c := by omega
        have i3 : (k : Int) ≤ c := by omega
        have i4 : (0 : Int) ≤ k := by omega
        have z1 : (c = k) = False := by simp; omega
        have z2 : ¬ c = k := by omega
        obtain ⟨i0, hi, hz0, hz1, hz2⟩ := info_parts info_hash
        clear hy ry yl gl
        rw [hbk, e1] at hR
        have hm0 : (0 : Int) ≤ m := by omega
        by_cases hlt : m < k
        · have hlt2 : (m : Int) < k := by omega
          rw [if_pos (by omega), treesI_append] at hR
          have ihl : ∀ w2, Gr w w2 → Calls Tryd.prog 26 #[.int .i64 (m : Int), .slice (some ⟨g, o, none⟩) k c] w2 (HList w2 (treesI L (pathL F (b + m : Nat) b (b + k : Nat)))) := fun w2 h => ih b k m c _ w2 hkF hlt (by omega) (by omega) (by omega) (HE.out.step h) (HI1.out.below h)
          obtain ⟨lP, hlP⟩ : ∃ l, treesI L (pathL F (b + m : Nat) b (b + k : Nat)) = l := ⟨_, rfl⟩
          rw [hlP] at ihl
          have hlen : lP.length ≤ 200 := by rw [← hlP]; unfold treesI; rw [List.length_map]; have := pathL_len F (b + m : Nat) b (b + k : Nat); omega
          obtain ⟨x2, hx2⟩ : ∃ x, treeI L (b + k : Nat) (b + n : Nat) = x := ⟨_, rfl⟩
          have HLST : Hid (R = lP ++ [x2]) := Lib.hid (by rw [← hR, hlP, ← hx2]; rfl)
          have X2 : Hid (x2.length = 32) := Lib.hid (by rw [← hx2]; exact l2)
          obtain ⟨v2, ev2, Hv2, Zv2, Iv2, Ov2⟩ := row_of x2 X2.out
          rw [hx2] at im2
          rw [ev2] at im2
          have IHL := Lib.hid ihl
          have IHM := Lib.hid im2
          clear ihl im1 im2 hx2 hlP ev2 hI1 hI2 hE hI ih l1 l2 hbk hbl hk hk2 e1 hR h1 hlt
          go_enter Tryd.func26, Tryd.ntmps26
          go_wp2_with fail
          refine (HHA.out w).mono ?_
          rintro ev w0 ⟨rfl, rfl⟩
          go_wp2_with fail
          refine wp_region_held_drew (S := Gr w) (by kernel_rfl) (Gr.drew (Gr.refl _)) (fun hHeld => ?_)
          refine wpAnyH_take (i := 0) (v := ?tv1) rfl (by kernel_rfl) (by kernel_rfl) (by kernel_rfl) (fun _ _ _ h => h) (Or.inl ⟨by rfl, ?ty1⟩) (by assumption) ?tr1
          case ty1 => (intro w hSw; (try dsimp only at hSw); go_simp; (try with_reducible rfl))
          try simp only [Act.put, List.getElem_toArray, List.getElem_cons_zero, List.setIfInBounds_toArray, List.set_cons_zero, List.set_cons_succ]
          refine wpAnyH_take (i := 1) (v := ?tv2) rfl (by kernel_rfl) (by kernel_rfl) (by kernel_rfl) (fun _ _ _ h => h) (Or.inl ⟨by rfl, ?ty2⟩) (by assumption) ?tr2
          case ty2 => (intro w hSw; (try dsimp only at hSw); go_simp; (try with_reducible rfl))
          try simp only [Act.put, List.getElem_toArray, List.getElem_cons_zero, List.getElem_cons_succ, List.setIfInBounds_toArray, List.set_cons_zero, List.set_cons_succ]
          refine wpAnyH_take (i := 2) (v := ?tv3) rfl (by kernel_rfl) (by kernel_rfl) (by kernel_rfl) (fun _ _ _ h => h) (Or.inl ⟨by rfl, ?ty3⟩) (by assumption) ?tr3
          case ty3 => (intro w hSw; (try dsimp only at hSw); go_simp; (try with_reducible rfl))
          try simp only [Act.put, List.getElem_toArray, List.getElem_cons_zero, List.getElem_cons_succ, List.setIfInBounds_toArray, List.set_cons_zero, List.set_cons_succ]
          refine wpAnyH_take (i := 3) (v := ?tv4) rfl (by kernel_rfl) (by kernel_rfl) (by kernel_rfl) (fun _ _ _ h => h) (Or.inl ⟨by rfl, ?ty4⟩) (by assumption) ?tr4
          case ty4 => (intro w hSw; (try dsimp only at hSw); go_simp; (try with_reducible rfl))
          try simp only [Act.put, List.getElem_toArray, List.getElem_cons_zero, List.getElem_cons_succ, List.setIfInBounds_toArray, List.set_cons_zero, List.set_cons_succ]
          refine wpAnyH_take (i := 5) (v := ?tv5) rfl (by kernel_rfl) (by kernel_rfl) (by kernel_rfl) (fun _ _ _ h => h) (Or.inl ⟨by rfl, ?ty5⟩) (by assumption) ?tr5
          case ty5 => (intro w hSw; (try dsimp only at hSw); go_simp; (try with_reducible rfl))
          try simp only [Act.put, List.getElem_toArray, List.getElem_cons_zero, List.getElem_cons_succ, List.setIfInBounds_toArray, List.set_cons_zero, List.set_cons_succ]
          refine wpAnyH_take (i := 6) (v := ?tv6) rfl (by kernel_rfl) (by kernel_rfl) (by kernel_rfl) (fun _ _ _ h => h) (Or.inl ⟨by rfl, ?ty6⟩) (by assumption) ?tr6
          case ty6 => (intro w hSw; (try dsimp only at hSw); go_simp; (try with_reducible rfl))
          try simp only [Act.put, List.getElem_toArray, List.getElem_cons_zero, List.getElem_cons_succ, List.setIfInBounds_toArray, List.set_cons_zero, List.set_cons_succ]
          refine wpAnyH_take (i := 7) (v := ?tv7) rfl (by kernel_rfl) (by kernel_rfl) (by kernel_rfl) (fun _ _ _ h => h) (Or.inl ⟨by rfl, ?ty7⟩) (by assumption) ?tr7
          case ty7 => (intro w hSw; (try dsimp only at hSw); go_simp; (try with_reducible rfl))
          try simp only [Act.put, List.getElem_toArray, List.getElem_cons_zero, List.getElem_cons_succ, List.setIfInBounds_toArray, List.set_cons_zero, List.set_cons_succ]
          refine wpAnyH_ready (rs := [4]) (by kernel_rfl) (by simp) ?_
          refine AllReadyH.cons (i := 4) rfl (fun K2 hK2 => ?_) AllReadyH.nil
          go_simp
          go_at_call 26
          refine (IHL.out w.drew (show Gr w w.drew from (Gr.drew (Gr.refl w)))).mono ?_
          rintro ev w501 ⟨vP, rfl, hP32, oP, b502⟩
          try go_wp2_with fail
          have OP := Lib.hid (And.intro oP hP32)
          clear oP hP32
          refine hK2.out _ _ (show Gr w w501 from (Gr.step (Gr.drew (Gr.refl w)) b502)) (fun hHeld2 => ?_)
          clear hK2 K2
          try simp only [Act.put, List.getElem_toArray, List.getElem_cons_zero, List.getElem_cons_succ, List.setIfInBounds_toArray, List.set_cons_zero, List.set_cons_succ]
          refine wpAnyH_ready (rs := [8]) (by kernel_rfl) (by simp) ?_
          refine AllReadyH.cons (i := 8) rfl (fun K2 hK2 => ?_) AllReadyH.nil
          go_simp
          go_at_call 24
          refine (IHM.out w501 (show Gr w w501 from (Gr.step (Gr.drew (Gr.refl w)) b502))).mono ?_
          rintro ev w503 ⟨rfl, b504⟩
          try go_wp2_with fail
          refine hK2.out _ _ (show Gr w w503 from (Gr.step (Gr.step (Gr.drew (Gr.refl w)) b502) b504)) (fun hHeld2 => ?_)
          clear hK2 K2
          try simp only [Act.put, List.getElem_toArray, List.getElem_cons_zero, List.getElem_cons_succ, List.setIfInBounds_toArray, List.set_cons_zero, List.set_cons_succ]
          refine wpAnyH_ready (rs := [9]) (by kernel_rfl) (by simp) ?_
          refine AllReadyH.cons (i := 9) rfl (fun K2 hK2 => ?_) AllReadyH.nil
          rw [if_pos (by rfl)]
          refine wp_buildSlice_row 22 26 _ v2 _ 32 rfl rfl Tryd.underlying22 Tryd.sizeOf26 Tryd.zeroValue26 rfl Zv2.out (by omega) (by omega) ?_
          obtain ⟨w505, hw505⟩ : ∃ x, w503.alloc (.cells v2 26) = x := ⟨_, rfl⟩
          have b506 : Below w503.heap.size w503 w505 := by rw [← hw505]; exact (Below.refl _ _).alloc (Nat.le_refl _) _
          have RB : Hid (w505.heap[w503.heap.size]? = some (.cells v2 26 (0, 0))) := Lib.hid (by rw [← hw505]; exact heap_alloc_new _ _)
          obtain ⟨gB, hgB⟩ : ∃ x, w503.heap.size = x := ⟨_, rfl⟩
          rw [hw505]
          rw [hgB] at RB ⊢
          clear hw505 hgB
          refine hK2.out _ _ (show Gr w w505 from (Gr.step (Gr.step (Gr.step (Gr.drew (Gr.refl w)) b502) b504) b506)) (fun hHeld2 => ?_)
          clear hK2 K2
          try simp only [Act.put, List.getElem_toArray, List.getElem_cons_zero, List.getElem_cons_succ, List.setIfInBounds_toArray, List.set_cons_zero, List.set_cons_succ]
          refine wpAnyH_ready (rs := [10]) (by kernel_rfl) (by simp) ?_
          refine AllReadyH.cons (i := 10) rfl (fun K2 hK2 => ?_) AllReadyH.nil
          have hwP := (show Gr w501 w505 from (Gr.step (Gr.step (Gr.refl w501) b504) b506))
          have hwB := (show Gr w505 w505 from (Gr.refl w505))
          have hw0 := (show Gr w w505 from (Gr.step (Gr.step (Gr.step (Gr.drew (Gr.refl w)) b502) b504) b506))
          have hown := own_mono (own_below OP.out.1 hwP (Nat.le_refl _)) (base' := w.heap.size) (by have := (show Gr w w.drew from (Gr.drew (Gr.refl w))).size; omega)
          have hnews : ∀ j u, (bytesV x2)[j]? = some u → w505.cell? ((⟨gB, 0, none⟩ : Addr).add j) = some u := news_at (((show Below _ _ _ from hwB).block _ (Array.getElem?_eq_some_iff.1 RB.out).1).trans RB.out) Hv2.out
          clear hwP hwB
          rw [if_pos (by rfl)]
          refine wp_append_lies w505 _ _ 22 rfl w.heap.size 26 i0 _ 32 32 Tryd.underlying22 hi hz0 hz1 hz2 rfl (by decide) vP _ _ rfl hown ⟨gB, 0, none⟩ 1 1 (bytesV x2) rfl (by rw [bytesV_length, X2.out]) hnews (bytesV_one x2) (by decide) (by unfold maxLen; omega) (by omega) hw0.size _ rfl ?_
          intro g9 cap9 w507 hown9 hgrow9 hat9 hlt9
          have b508 : Below w.heap.size w w507 := Below.grown hw0 hgrow9 hw0.size (fun k hk => (hown.lt k hk).1)
          have HO9 := Lib.hid (And.intro hown9 b508)
          clear hown9 hgrow9 hat9 hlt9 hown hnews hw0
          refine hK2.out _ _ b508 (fun hHeld2 => ?_)
          clear hK2 K2
          try simp only [Act.put, List.getElem_toArray, List.getElem_cons_zero, List.getElem_cons_succ, List.setIfInBounds_toArray, List.set_cons_zero, List.set_cons_succ]
          refine wpAnyH_take (i := 11) (v := ?tv8) rfl (by kernel_rfl) (by kernel_rfl) (by kernel_rfl) (fun _ _ _ h => h) (Or.inl ⟨by rfl, ?ty8⟩) (by assumption) ?tr8
          case ty8 => (intro w hSw; (try dsimp only at hSw); go_simp; (try with_reducible rfl))
          try simp only [Act.put, List.getElem_toArray, List.getElem_cons_zero, List.getElem_cons_succ, List.setIfInBounds_toArray, List.set_cons_zero, List.set_cons_succ]
          refine wpAnyH_done (by kernel_rfl) ?_ _
          go_wp2
          go_ret
          rw [HLST.out]
          refine ⟨_, rfl, ?_, own_congr HO9.out.1 ?_ ?_, HO9.out.2⟩
          · intro z hz
            rcases List.mem_append.1 hz with q | q
            · exact OP.out.2 z q
            · simp at q; subst q; exact X2.out
          · simp
          · rw [hashCells_append, hashCells_one]
        · have hlt2 : ¬ (m : Int) < k := by omega
          have d0 : (0 : Int) ≤ (m : Int) - k := by omega
          have d1 : (m : Int) - k < 9223372036854775808 := by omega
          have d2 : IntKind.i64.wrap ((m : Int) - k) = (m : Int) - k := IntWalk.i64_in _ (by omega)
          rw [if_neg (by omega), treesI_append] at hR
          have ihl : ∀ w2, Gr w w2 → Calls Tryd.prog 26 #[.int .i64 ((m : Int) - k), .slice (some ⟨g, o + k * 32, none⟩) (n - k) (c - k)] w2 (HList w2 (treesI L (pathL F (b + m : Nat) (b + k : Nat) (b + n : Nat)))) := fun w2 h => (by
            have := ih (b + k) (n - k) (m - k) (c - k) _ w2 (by omega) (by omega) (by omega) (by omega) (by omega) (HE.out.step h) (HI2.out.below h)
            rwa [show b + k + (n - k) = b + n by omega, show b + k + (m - k) = b + m by omega, show ((m - k : Nat) : Int) = (m : Int) - k by omega] at this)
          obtain ⟨lP, hlP⟩ : ∃ l, treesI L (pathL F (b + m : Nat) (b + k : Nat) (b + n : Nat)) = l := ⟨_, rfl⟩
          rw [hlP] at ihl
          have hlen : lP.length ≤ 200 := by rw [← hlP]; unfold treesI; rw [List.length_map]; have := pathL_len F (b + m : Nat) (b + k : Nat) (b + n : Nat); omega
          obtain ⟨x2, hx2⟩ : ∃ x, treeI L b (b + k : Nat) = x := ⟨_, rfl⟩
          have HLST : Hid (R = lP ++ [x2]) := Lib.hid (by rw [← hR, hlP, ← hx2]; rfl)
          have X2 : Hid (x2.length = 32) := Lib.hid (by rw [← hx2]; exact l1)
          obtain ⟨v2, ev2, Hv2, Zv2, Iv2, Ov2⟩ := row_of x2 X2.out
          rw [hx2] at im1
          rw [ev2] at im1
          have IHL := Lib.hid ihl
          have IHM := Lib.hid im1
          clear ihl im1 im2 hx2 hlP ev2 hI1 hI2 hE hI ih l1 l2 hbk hbl hk hk2 e1 hR h1 hlt
          go_enter Tryd.func26, Tryd.ntmps26
          go_wp2_with fail
          refine (HHA.out w).mono ?_
          rintro ev w0 ⟨rfl, rfl⟩
          go_wp2_with fail
          refine wp_region_held_drew (S := Gr w) (by kernel_rfl) (Gr.drew (Gr.refl _)) (fun hHeld => ?_)
          refine wpAnyH_take (i := 0) (v := ?tv9) rfl (by kernel_rfl) (by kernel_rfl) (by kernel_rfl) (fun _ _ _ h => h) (Or.inl ⟨by rfl, ?ty9⟩) (by assumption) ?tr9
          case ty9 => (intro w hSw; (try dsimp only at hSw); go_simp; (try with_reducible rfl))
          try simp only [Act.put, List.getElem_toArray, List.getElem_cons_zero, List.setIfInBounds_toArray, List.set_cons_zero, List.set_cons_succ]
          refine wpAnyH_take (i := 1) (v := ?tv10) rfl (by kernel_rfl) (by kernel_rfl) (by kernel_rfl) (fun _ _ _ h => h) (Or.inl ⟨by rfl, ?ty10⟩) (by assumption) ?tr10
          case ty10 => (intro w hSw; (try dsimp only at hSw); go_simp; (try with_reducible rfl))
          try simp only [Act.put, List.getElem_toArray, List.getElem_cons_zero, List.getElem_cons_succ, List.setIfInBounds_toArray, List.set_cons_zero, List.set_cons_succ]
          refine wpAnyH_take (i := 2) (v := ?tv11) rfl (by kernel_rfl) (by kernel_rfl) (by kernel_rfl) (fun _ _ _ h => h) (Or.inl ⟨by rfl, ?ty11⟩) (by assumption) ?tr11
          case ty11 => (intro w hSw; (try dsimp only at hSw); go_simp; (try with_reducible rfl))
          try simp only [Act.put, List.getElem_toArray, List.getElem_cons_zero, List.getElem_cons_succ, List.setIfInBounds_toArray, List.set_cons_zero, List.set_cons_succ]
          refine wpAnyH_take (i := 3) (v := ?tv12) rfl (by kernel_rfl) (by kernel_rfl) (by kernel_rfl) (fun _ _ _ h => h) (Or.inl ⟨by rfl, ?ty12⟩) (by assumption) ?tr12
          case ty12 => (intro w hSw; (try dsimp only at hSw); go_simp; (try with_reducible rfl))
          try simp only [Act.put, List.getElem_toArray, List.getElem_cons_zero, List.getElem_cons_succ, List.setIfInBounds_toArray, List.set_cons_zero, List.set_cons_succ]
          refine wpAnyH_take (i := 4) (v := ?tv13) rfl (by kernel_rfl) (by kernel_rfl) (by kernel_rfl) (fun _ _ _ h => h) (Or.inl ⟨by rfl, ?ty13⟩) (by assumption) ?tr13
          case ty13 => (intro w hSw; (try dsimp only at hSw); go_simp; (try with_reducible rfl))
          try simp only [Act.put, List.getElem_toArray, List.getElem_cons_zero, List.getElem_cons_succ, List.setIfInBounds_toArray, List.set_cons_zero, List.set_cons_succ]
          refine wpAnyH_take (i := 5) (v := ?tv14) rfl (by kernel_rfl) (by kernel_rfl) (by kernel_rfl) (fun _ _ _ h => h) (Or.inl ⟨by rfl, ?ty14⟩) (by assumption) ?tr14
          case ty14 => (intro w hSw; (try dsimp only at hSw); go_simp; (try with_reducible rfl))
          try simp only [Act.put, List.getElem_toArray, List.getElem_cons_zero, List.getElem_cons_succ, List.setIfInBounds_toArray, List.set_cons_zero, List.set_cons_succ]
          refine wpAnyH_take (i := 7) (v := ?tv15) rfl (by kernel_rfl) (by kernel_rfl) (by kernel_rfl) (fun _ _ _ h => h) (Or.inl ⟨by rfl, ?ty15⟩) (by assumption) ?tr15
          case ty15 => (intro w hSw; (try dsimp only at hSw); go_simp; (try with_reducible rfl))
          try simp only [Act.put, List.getElem_toArray, List.getElem_cons_zero, List.getElem_cons_succ, List.setIfInBounds_toArray, List.set_cons_zero, List.set_cons_succ]
          refine wpAnyH_take (i := 8) (v := ?tv16) rfl (by kernel_rfl) (by kernel_rfl) (by kernel_rfl) (fun _ _ _ h => h) (Or.inl ⟨by rfl, ?ty16⟩) (by assumption) ?tr16
          case ty16 => (intro w hSw; (try dsimp only at hSw); go_simp; (try with_reducible rfl))
          try simp only [Act.put, List.getElem_toArray, List.getElem_cons_zero, List.getElem_cons_succ, List.setIfInBounds_toArray, List.set_cons_zero, List.set_cons_succ]
          refine wpAnyH_take (i := 9) (v := ?tv17) rfl (by kernel_rfl) (by kernel_rfl) (by kernel_rfl) (fun _ _ _ h => h) (Or.inl ⟨by rfl, ?ty17⟩) (by assumption) ?tr17
          case ty17 => (intro w hSw; (try dsimp only at hSw); go_simp; (try with_reducible rfl))
          try simp only [Act.put, List.getElem_toArray, List.getElem_cons_zero, List.getElem_cons_succ, List.setIfInBounds_toArray, List.set_cons_zero, List.set_cons_succ]
          refine wpAnyH_ready (rs := [6]) (by kernel_rfl) (by simp) ?_
          refine AllReadyH.cons (i := 6) rfl (fun K2 hK2 => ?_) AllReadyH.nil
          go_simp
          go_at_call 26
          refine (IHL.out w.drew (show Gr w w.drew from (Gr.drew (Gr.refl w)))).mono ?_
          rintro ev w509 ⟨vP, rfl, hP32, oP, b510⟩
          try go_wp2_with fail
          have OP := Lib.hid (And.intro oP hP32)
          clear oP hP32
          refine hK2.out _ _ (show Gr w w509 from (Gr.step (Gr.drew (Gr.refl w)) b510)) (fun hHeld2 => ?_)
          clear hK2 K2
          try simp only [Act.put, List.getElem_toArray, List.getElem_cons_zero, List.getElem_cons_succ, List.setIfInBounds_toArray, List.set_cons_zero, List.set_cons_succ]
          refine wpAnyH_ready (rs := [10]) (by kernel_rfl) (by simp) ?_
          refine AllReadyH.cons (i := 10) rfl (fun K2 hK2 => ?_) AllReadyH.nil
          go_simp
          go_at_call 24
          refine (IHM.out w509 (show Gr w w509 from (Gr.step (Gr.drew (Gr.refl w)) b510))).mono ?_
          rintro ev w511 ⟨rfl, b512⟩
          try go_wp2_with fail
          refine hK2.out _ _ (show Gr w w511 from (Gr.step (Gr.step (Gr.drew (Gr.refl w)) b510) b512)) (fun hHeld2 => ?_)
          clear hK2 K2
          try simp only [Act.put, List.getElem_toArray, List.getElem_cons_zero, List.getElem_cons_succ, List.setIfInBounds_toArray, List.set_cons_zero, List.set_cons_succ]
          refine wpAnyH_ready (rs := [11]) (by kernel_rfl) (by simp) ?_
          refine AllReadyH.cons (i := 11) rfl (fun K2 hK2 => ?_) AllReadyH.nil
          rw [if_pos (by rfl)]
          refine wp_buildSlice_row 22 26 _ v2 _ 32 rfl rfl Tryd.underlying22 Tryd.sizeOf26 Tryd.zeroValue26 rfl Zv2.out (by omega) (by omega) ?_
          obtain ⟨w513, hw513⟩ : ∃ x, w511.alloc (.cells v2 26) = x := ⟨_, rfl⟩
          have b514 : Below w511.heap.size w511 w513 := by rw [← hw513]; exact (Below.refl _ _).alloc (Nat.le_refl _) _
          have RB : Hid (w513.heap[w511.heap.size]? = some (.cells v2 26 (0, 0))) := Lib.hid (by rw [← hw513]; exact heap_alloc_new _ _)
          obtain ⟨gB, hgB⟩ : ∃ x, w511.heap.size = x := ⟨_, rfl⟩
          rw [hw513]
          rw [hgB] at RB ⊢
          clear hw513 hgB
          refine hK2.out _ _ (show Gr w w513 from (Gr.step (Gr.step (Gr.step (Gr.drew (Gr.refl w)) b510) b512) b514)) (fun hHeld2 => ?_)
          clear hK2 K2
          try simp only [Act.put, List.getElem_toArray, List.getElem_cons_zero, List.getElem_cons_succ, List.setIfInBounds_toArray, List.set_cons_zero, List.set_cons_succ]
          refine wpAnyH_ready (rs := [12]) (by kernel_rfl) (by simp) ?_
          refine AllReadyH.cons (i := 12) rfl (fun K2 hK2 => ?_) AllReadyH.nil
          have hwP := (show Gr w509 w513 from (Gr.step (Gr.step (Gr.refl w509) b512) b514))
          have hwB := (show Gr w513 w513 from (Gr.refl w513))
          have hw0 := (show Gr w w513 from (Gr.step (Gr.step (Gr.step (Gr.drew (Gr.refl w)) b510) b512) b514))
          have hown := own_mono (own_below OP.out.1 hwP (Nat.le_refl _)) (base' := w.heap.size) (by have := (show Gr w w.drew from (Gr.drew (Gr.refl w))).size; omega)
          have hnews : ∀ j u, (bytesV x2)[j]? = some u → w513.cell? ((⟨gB, 0, none⟩ : Addr).add j) = some u := news_at (((show Below _ _ _ from hwB).block _ (Array.getElem?_eq_some_iff.1 RB.out).1).trans RB.out) Hv2.out
          clear hwP hwB
          rw [if_pos (by rfl)]
          refine wp_append_lies w513 _ _ 22 rfl w.heap.size 26 i0 _ 32 32 Tryd.underlying22 hi hz0 hz1 hz2 rfl (by decide) vP _ _ rfl hown ⟨gB, 0, none⟩ 1 1 (bytesV x2) rfl (by rw [bytesV_length, X2.out]) hnews (bytesV_one x2) (by decide) (by unfold maxLen; omega) (by omega) hw0.size _ rfl ?_
          intro g9 cap9 w515 hown9 hgrow9 hat9 hlt9
          have b516 : Below w.heap.size w w515 := Below.grown hw0 hgrow9 hw0.size (fun k hk => (hown.lt k hk).1)
          have HO9 := Lib.hid (And.intro hown9 b516)
          clear hown9 hgrow9 hat9 hlt9 hown hnews hw0
          refine hK2.out _ _ b516 (fun hHeld2 => ?_)
          clear hK2 K2
          try simp only [Act.put, List.getElem_toArray, List.getElem_cons_zero, List.getElem_cons_succ, List.setIfInBounds_toArray, List.set_cons_zero, List.set_cons_succ]
          refine wpAnyH_take (i := 13) (v := ?tv18) rfl (by kernel_rfl) (by kernel_rfl) (by kernel_rfl) (fun _ _ _ h => h) (Or.inl ⟨by rfl, ?ty18⟩) (by assumption) ?tr18
          case ty18 => (intro w hSw; (try dsimp only at hSw); go_simp; (try with_reducible rfl))
          try simp only [Act.put, List.getElem_toArray, List.getElem_cons_zero, List.getElem_cons_succ, List.setIfInBounds_toArray, List.set_cons_zero, List.set_cons_succ]
          refine wpAnyH_done (by kernel_rfl) ?_ _
          go_wp2
          go_ret
          rw [HLST.out]
          refine ⟨_, rfl, ?_, own_congr HO9.out.1 ?_ ?_, HO9.out.2⟩
          · intro z hz
            rcases List.mem_append.1 hz with q | q
            · exact OP.out.2 z q
            · simp at q; subst q; exact X2.out
          · simp
          · rw [hashCells_append, hashCells_one]
end Go.Proofs.YtdodfeoaioolnaaDoor

/- cartularylaw15.sub: by the definition. Condition: the package-level variables read as listed. -/
namespace Go.Proofs.YtdodfeoaioolnaaDoor
open Go.ChangeShapes Go.WideShapes Go.ChangeAt Go.RowKit
set_option linter.unusedVariables false
theorem hlist_one (w w1 : World) (cs : Array Value) (x : List UInt8) (hx : x.length = 32) (hc : (bytesV x).toArray = cs) (hb : Below w.heap.size w w1) : HList w [x] (.returned (.slice (some ⟨w1.heap.size, 0, none⟩) 1 1)) (w1.alloc (.cells cs 26)) :=
  ⟨_, rfl, H32.one hx, own_one w1 w.heap.size cs x hx hc hb.size, hb.alloc hb.size _⟩
set_option maxRecDepth 100000 in
set_option maxHeartbeats 8000000 in
theorem sub15_end (a : Nat → Addr) (B : Nat) (L : List (List UInt8)) (hL : H32 L) (F b n c : Nat) (A : Option Addr) (w : World) (h1 : 1 ≤ n) (hbn : b + n ≤ L.length) (hn : n ≤ 1000) (hE : EnvP B a w) (hI : HIn w A n c (cut L b n)) :
    Calls Tryd.prog 27 #[.int .i64 (n : Int), .slice A n c, .bool (decide (b = 0))] w (HList w (treesI L (proofL F (b + n : Nat) b (b + n : Nat)))) := by
  rw [proofL_end]
  have t1 : ((n : Int) == (n : Int)) = true := by simp
  by_cases hb : b = 0
  · have e : treesI L (if 0 < (b : Int) then [((b : Int), ((b + n : Nat) : Int))] else []) = [] := by rw [if_neg (by omega)]; rfl
    have hd : decide (b = 0) = true := by simpa using hb
    rw [e, hd]
    clear e hE hI hb hd
    go_enter Tryd.func27, Tryd.ntmps27
    go_wp2
    go_ret
    exact hlist_nil w
  · have e : treesI L (if 0 < (b : Int) then [((b : Int), ((b + n : Nat) : Int))] else []) = [treeI L b (b + n : Nat)] := by rw [if_pos (by omega)]; rfl
    have hd : decide (b = 0) = false := by simpa using hb
    have hm := mth_any a B L hL n b n c A w (Nat.le_refl _) hbn hn hE hI
    have hl := treeI_len hL b (b + n : Nat) (by omega) (by omega) (by omega) (by rw [pow2_64]; omega)
    rw [e, hd]
    obtain ⟨x, hx⟩ : ∃ x, treeI L b (b + n : Nat) = x := ⟨_, rfl⟩
    rw [hx] at hm hl ⊢
    obtain ⟨v, ev, Hv, Zv, Iv, Ov⟩ := row_of x hl
    rw [ev] at hm
    have HM := Lib.hid hm
    have HL := Lib.hid hl
    clear e hE hI hb hd hx ev hm hl
    go_enter Tryd.func27, Tryd.ntmps27
    go_wp2_with fail
    refine HM.out.mono ?_
    rintro ev w1 ⟨rfl, b1⟩
    go_wp2_with (refine wpList_buildSlice_row rfl 22 26 _ v _ 32 rfl rfl Tryd.underlying22 Tryd.sizeOf26 Tryd.zeroValue26 rfl Zv.out (by omega) (by omega) ?_)
    go_ret
    exact hlist_one w w1 v x HL.out Hv.out b1
set_option maxRecDepth 100000 in
set_option maxHeartbeats 8000000 in
theorem sub15_any (a : Nat → Addr) (B : Nat) (L : List (List UInt8)) (hL : H32 L) : ∀ (F b n m c : Nat) (A : Option Addr) (w : World), (n : Int) ≤ pow2 F → 1 ≤ m → m ≤ n → b + n ≤ L.length → n ≤ 1000 → F ≤ 64 → EnvP B a w → HIn w A n c (cut L b n) →
    Calls Tryd.prog 27 #[.int .i64 (m : Int), .slice A n c, .bool (decide (b = 0))] w (HList w (treesI L (proofL F (b + m : Nat) b (b + n : Nat)))) := by
  intro F
  induction F with
  | zero =>
    intro b n m c A w hF hm1 hm hbn hn h64 hE hI
    rw [pow2_zero] at hF
    obtain rfl : m = n := by omega
    exact sub15_end a B L hL 0 b m c A w hm1 hbn hn hE hI
  | succ F ih =>
    intro b n m c A w hF hm1 hm hbn hn h64 hE hI
    by_cases hmn : m = n
    · subst hmn
      exact sub15_end a B L hL (F + 1) b m c A w hm1 hbn hn hE hI
    · have t1 : ((m : Int) == (n : Int)) = false := by simp; omega
      have hpL : proofL (F + 1) (b + m : Nat) b (b + n : Nat) = if (((b + m : Nat) : Int)) ≤ (b : Int) + blwI (((b + n : Nat) : Int) - (b : Int)) then proofL F (b + m : Nat) b (b + blwI (((b + n : Nat) : Int) - (b : Int))) ++ [((b : Int) + blwI (((b + n : Nat) : Int) - (b : Int)), ((b + n : Nat) : Int))] else proofL F (b + m : Nat) (b + blwI (((b + n : Nat) : Int) - (b : Int))) (b + n : Nat) ++ [((b : Int), (b : Int) + blwI (((b + n : Nat) : Int) - (b : Int)))] := by
        rw [proofL, if_neg (by omega)]
      obtain ⟨R, hR⟩ : ∃ R, treesI L (proofL (F + 1) (b + m : Nat) b (b + n : Nat)) = R := ⟨_, rfl⟩
      rw [hR]
      rw [hpL] at hR
      clear hpL
      obtain ⟨fl, hfl⟩ : ∃ f : Bool, f = decide (b = 0) := ⟨_, rfl⟩
      rw [← hfl]
      · skip
        have hk1 := blw_lt (n := n) (by omega)
        have hk0 := blw_pos n
        have hk2 := blw_dbl (n := n) (by omega)
        have HHA := Lib.hid (fun w' => half_any n w' (by omega) (by omega))
        have hkF := blwI_le_pow (n := (n : Int)) (f := F) (by omega) hF
        obtain ⟨k, hk⟩ : ∃ k, blw n = k := ⟨_, rfl⟩
        have hbl : blwI (n : Int) = (k : Int) := by rw [← hk]; unfold blwI; rw [Int.toNat_natCast]
        rw [hk] at hk1 hk0 hk2 HHA
        rw [hbl] at hkF
        have hbk : blwI (((b + n : Nat) : Int) - (b : Int)) = (k : Int) := by rw [show ((b + n : Nat) : Int) - (b : Int) = (n : Int) by omega, hbl]
        obtain ⟨y, hy⟩ : ∃ y, (cut L b n)[0]? = some y := ⟨_, List.getElem?_eq_getElem (by rw [cut_len hbn]; omega)⟩
        obtain ⟨g, o, rfl, gl, ry, yl⟩ := hI.row hy
        have hnc := hI.2.2.1
        have l1 := treeI_len hL b (b + k : Nat) (by omega) (by omega) (by omega) (by rw [pow2_64]; omega)
        have l2 := treeI_len hL (b + k : Nat) (b + n : Nat) (by omega) (by omega) (by omega) (by rw [pow2_64]; omega)
        have hI1 := hin_take hI (k := k) (by omega)
        rw [cut_take _ _ _ _ (by omega)] at hI1
        have hI2 := hin_drop hI (k := k) (by omega)
        rw [cut_drop _ _ _ _ (by omega)] at hI2
        have HI1 := Lib.hid hI1
        have HI2 := Lib.hid hI2
        have HE := Lib.hid hE
        have im1 : ∀ w', Gr w w' → Calls Tryd.prog 24 #[.slice (some ⟨g, o, none⟩) k c] w' fun ev w2 => ev = .returned (hv (treeI L b (b + k : Nat))) ∧ Below w'.heap.size w' w2 := fun w' h => mth_any a B L hL k b k c _ w' (Nat.le_refl _) (by omega) (by omega) (HE.out.step h) (HI1.out.below h)
        have im2 : ∀ w', Gr w w' → Calls Tryd.prog 24 #[.slice (some ⟨g, o + k * 32, none⟩) (n - k) (c - k)] w' fun ev w2 => ev = .returned (hv (treeI L (b + k : Nat) (b + n : Nat))) ∧ Below w'.heap.size w' w2 := fun w' h => by
          have := mth_any a B L hL (n - k) (b + k) (n - k) (c - k) _ w' (Nat.le_refl _) (by omega) (by omega) (HE.out.step h) (HI2.out.below h)
          rwa [show b + k + (n - k) = b + n by omega] at this
        have e1 : ((b : Nat) : Int) + (k : Int) = ((b + k : Nat) : Int) := by omega
        have i1 : (k : Int) ≤ n := by omega
        have i2 : (n : Int) ≤ c := by omega
        have i3 : (k : Int) ≤ c := by omega
        have i4 : (0 : Int) ≤ k := by omega
        have z1 : (c = k) = False := by simp; omega
        have z2 : ¬ c = k := by omega
        obtain ⟨i0, hi, hz0, hz1, hz2⟩ := info_parts info_hash
        clear hy ry yl gl
        rw [hbk, e1] at hR
        have hm0 : (0 : Int) ≤ m := by omega
        by_cases hlt : m ≤ k
        · have hlt2 : (m : Int) ≤ k := by omega
          rw [if_pos (by omega), treesI_append] at hR
          have ihl : ∀ w2, Gr w w2 → Calls Tryd.prog 27 #[.int .i64 (m : Int), .slice (some ⟨g, o, none⟩) k c, .bool fl] w2 (HList w2 (treesI L (proofL F (b + m : Nat) b (b + k : Nat)))) := fun w2 h => (by rw [hfl]; exact ih b k m c _ w2 hkF hm1 hlt (by omega) (by omega) (by omega) (HE.out.step h) (HI1.out.below h))
          obtain ⟨lP, hlP⟩ : ∃ l, treesI L (proofL F (b + m : Nat) b (b + k : Nat)) = l := ⟨_, rfl⟩
          rw [hlP] at ihl
          have hlen : lP.length ≤ 200 := by rw [← hlP]; unfold treesI; rw [List.length_map]; have := proofL_len F (b + m : Nat) b (b + k : Nat); omega
          obtain ⟨x2, hx2⟩ : ∃ x, treeI L (b + k : Nat) (b + n : Nat) = x := ⟨_, rfl⟩
          have HLST : Hid (R = lP ++ [x2]) := Lib.hid (by rw [← hR, hlP, ← hx2]; rfl)
          have X2 : Hid (x2.length = 32) := Lib.hid (by rw [← hx2]; exact l2)
          obtain ⟨v2, ev2, Hv2, Zv2, Iv2, Ov2⟩ := row_of x2 X2.out
          rw [hx2] at im2
          rw [ev2] at im2
          have IHL := Lib.hid ihl
          have IHM := Lib.hid im2
          clear ihl im1 im2 hx2 hlP ev2 hI1 hI2 hE hI ih l1 l2 hbk hbl hk hk2 e1 hR hlt hfl
          go_enter Tryd.func27, Tryd.ntmps27
          go_wp2_with fail
          refine (HHA.out w).mono ?_
          rintro ev w0 ⟨rfl, rfl⟩
          go_wp2_with fail
          refine wp_region_held_drew (S := Gr w) (by kernel_rfl) (Gr.drew (Gr.refl _)) (fun hHeld => ?_)
          refine wpAnyH_take (i := 0) (v := ?tv19) rfl (by kernel_rfl) (by kernel_rfl) (by kernel_rfl) (fun _ _ _ h => h) (Or.inl ⟨by rfl, ?ty19⟩) (by assumption) ?tr19
          case ty19 => (intro w hSw; (try dsimp only at hSw); go_simp; (try with_reducible rfl))
          try simp only [Act.put, List.getElem_toArray, List.getElem_cons_zero, List.setIfInBounds_toArray, List.set_cons_zero, List.set_cons_succ]
          refine wpAnyH_take (i := 1) (v := ?tv20) rfl (by kernel_rfl) (by kernel_rfl) (by kernel_rfl) (fun _ _ _ h => h) (Or.inl ⟨by rfl, ?ty20⟩) (by assumption) ?tr20
          case ty20 => (intro w hSw; (try dsimp only at hSw); go_simp; (try with_reducible rfl))
          try simp only [Act.put, List.getElem_toArray, List.getElem_cons_zero, List.getElem_cons_succ, List.setIfInBounds_toArray, List.set_cons_zero, List.set_cons_succ]
          refine wpAnyH_take (i := 2) (v := ?tv21) rfl (by kernel_rfl) (by kernel_rfl) (by kernel_rfl) (fun _ _ _ h => h) (Or.inl ⟨by rfl, ?ty21⟩) (by assumption) ?tr21
          case ty21 => (intro w hSw; (try dsimp only at hSw); go_simp; (try with_reducible rfl))
          try simp only [Act.put, List.getElem_toArray, List.getElem_cons_zero, List.getElem_cons_succ, List.setIfInBounds_toArray, List.set_cons_zero, List.set_cons_succ]
          refine wpAnyH_take (i := 3) (v := ?tv22) rfl (by kernel_rfl) (by kernel_rfl) (by kernel_rfl) (fun _ _ _ h => h) (Or.inl ⟨by rfl, ?ty22⟩) (by assumption) ?tr22
          case ty22 => (intro w hSw; (try dsimp only at hSw); go_simp; (try with_reducible rfl))
          try simp only [Act.put, List.getElem_toArray, List.getElem_cons_zero, List.getElem_cons_succ, List.setIfInBounds_toArray, List.set_cons_zero, List.set_cons_succ]
          refine wpAnyH_take (i := 4) (v := ?tv23) rfl (by kernel_rfl) (by kernel_rfl) (by kernel_rfl) (fun _ _ _ h => h) (Or.inl ⟨by rfl, ?ty23⟩) (by assumption) ?tr23
          case ty23 => (intro w hSw; (try dsimp only at hSw); go_simp; (try with_reducible rfl))
          try simp only [Act.put, List.getElem_toArray, List.getElem_cons_zero, List.getElem_cons_succ, List.setIfInBounds_toArray, List.set_cons_zero, List.set_cons_succ]
          refine wpAnyH_take (i := 6) (v := ?tv24) rfl (by kernel_rfl) (by kernel_rfl) (by kernel_rfl) (fun _ _ _ h => h) (Or.inl ⟨by rfl, ?ty24⟩) (by assumption) ?tr24
          case ty24 => (intro w hSw; (try dsimp only at hSw); go_simp; (try with_reducible rfl))
          try simp only [Act.put, List.getElem_toArray, List.getElem_cons_zero, List.getElem_cons_succ, List.setIfInBounds_toArray, List.set_cons_zero, List.set_cons_succ]
          refine wpAnyH_take (i := 7) (v := ?tv25) rfl (by kernel_rfl) (by kernel_rfl) (by kernel_rfl) (fun _ _ _ h => h) (Or.inl ⟨by rfl, ?ty25⟩) (by assumption) ?tr25
          case ty25 => (intro w hSw; (try dsimp only at hSw); go_simp; (try with_reducible rfl))
          try simp only [Act.put, List.getElem_toArray, List.getElem_cons_zero, List.getElem_cons_succ, List.setIfInBounds_toArray, List.set_cons_zero, List.set_cons_succ]
          refine wpAnyH_take (i := 8) (v := ?tv26) rfl (by kernel_rfl) (by kernel_rfl) (by kernel_rfl) (fun _ _ _ h => h) (Or.inl ⟨by rfl, ?ty26⟩) (by assumption) ?tr26
          case ty26 => (intro w hSw; (try dsimp only at hSw); go_simp; (try with_reducible rfl))
          try simp only [Act.put, List.getElem_toArray, List.getElem_cons_zero, List.getElem_cons_succ, List.setIfInBounds_toArray, List.set_cons_zero, List.set_cons_succ]
          refine wpAnyH_ready (rs := [5]) (by kernel_rfl) (by simp) ?_
          refine AllReadyH.cons (i := 5) rfl (fun K2 hK2 => ?_) AllReadyH.nil
          go_simp
          go_at_call 27
          refine (IHL.out w.drew (show Gr w w.drew from (Gr.drew (Gr.refl w)))).mono ?_
          rintro ev w517 ⟨vP, rfl, hP32, oP, b518⟩
          try go_wp2_with fail
          have OP := Lib.hid (And.intro oP hP32)
          clear oP hP32
          refine hK2.out _ _ (show Gr w w517 from (Gr.step (Gr.drew (Gr.refl w)) b518)) (fun hHeld2 => ?_)
          clear hK2 K2
          try simp only [Act.put, List.getElem_toArray, List.getElem_cons_zero, List.getElem_cons_succ, List.setIfInBounds_toArray, List.set_cons_zero, List.set_cons_succ]
          refine wpAnyH_ready (rs := [9]) (by kernel_rfl) (by simp) ?_
          refine AllReadyH.cons (i := 9) rfl (fun K2 hK2 => ?_) AllReadyH.nil
          go_simp
          go_at_call 24
          refine (IHM.out w517 (show Gr w w517 from (Gr.step (Gr.drew (Gr.refl w)) b518))).mono ?_
          rintro ev w519 ⟨rfl, b520⟩
          try go_wp2_with fail
          refine hK2.out _ _ (show Gr w w519 from (Gr.step (Gr.step (Gr.drew (Gr.refl w)) b518) b520)) (fun hHeld2 => ?_)
          clear hK2 K2
          try simp only [Act.put, List.getElem_toArray, List.getElem_cons_zero, List.getElem_cons_succ, List.setIfInBounds_toArray, List.set_cons_zero, List.set_cons_succ]
          refine wpAnyH_ready (rs := [10]) (by kernel_rfl) (by simp) ?_
          refine AllReadyH.cons (i := 10) rfl (fun K2 hK2 => ?_) AllReadyH.nil
          rw [if_pos (by rfl)]
          refine wp_buildSlice_row 22 26 _ v2 _ 32 rfl rfl Tryd.underlying22 Tryd.sizeOf26 Tryd.zeroValue26 rfl Zv2.out (by omega) (by omega) ?_
          obtain ⟨w521, hw521⟩ : ∃ x, w519.alloc (.cells v2 26) = x := ⟨_, rfl⟩
          have b522 : Below w519.heap.size w519 w521 := by rw [← hw521]; exact (Below.refl _ _).alloc (Nat.le_refl _) _
          have RB : Hid (w521.heap[w519.heap.size]? = some (.cells v2 26 (0, 0))) := Lib.hid (by rw [← hw521]; exact heap_alloc_new _ _)
          obtain ⟨gB, hgB⟩ : ∃ x, w519.heap.size = x := ⟨_, rfl⟩
          rw [hw521]
          rw [hgB] at RB ⊢
          clear hw521 hgB
          refine hK2.out _ _ (show Gr w w521 from (Gr.step (Gr.step (Gr.step (Gr.drew (Gr.refl w)) b518) b520) b522)) (fun hHeld2 => ?_)
          clear hK2 K2
          try simp only [Act.put, List.getElem_toArray, List.getElem_cons_zero, List.getElem_cons_succ, List.setIfInBounds_toArray, List.set_cons_zero, List.set_cons_succ]
          refine wpAnyH_ready (rs := [11]) (by kernel_rfl) (by simp) ?_
          refine AllReadyH.cons (i := 11) rfl (fun K2 hK2 => ?_) AllReadyH.nil
          have hwP := (show Gr w517 w521 from (Gr.step (Gr.step (Gr.refl w517) b520) b522))
          have hwB := (show Gr w521 w521 from (Gr.refl w521))
          have hw0 := (show Gr w w521 from (Gr.step (Gr.step (Gr.step (Gr.drew (Gr.refl w)) b518) b520) b522))
          have hown := own_mono (own_below OP.out.1 hwP (Nat.le_refl _)) (base' := w.heap.size) (by have := (show Gr w w.drew from (Gr.drew (Gr.refl w))).size; omega)
          have hnews : ∀ j u, (bytesV x2)[j]? = some u → w521.cell? ((⟨gB, 0, none⟩ : Addr).add j) = some u := news_at (((show Below _ _ _ from hwB).block _ (Array.getElem?_eq_some_iff.1 RB.out).1).trans RB.out) Hv2.out
          clear hwP hwB
          rw [if_pos (by rfl)]
          refine wp_append_lies w521 _ _ 22 rfl w.heap.size 26 i0 _ 32 32 Tryd.underlying22 hi hz0 hz1 hz2 rfl (by decide) vP _ _ rfl hown ⟨gB, 0, none⟩ 1 1 (bytesV x2) rfl (by rw [bytesV_length, X2.out]) hnews (bytesV_one x2) (by decide) (by unfold maxLen; omega) (by omega) hw0.size _ rfl ?_
          intro g9 cap9 w523 hown9 hgrow9 hat9 hlt9
          have b524 : Below w.heap.size w w523 := Below.grown hw0 hgrow9 hw0.size (fun k hk => (hown.lt k hk).1)
          have HO9 := Lib.hid (And.intro hown9 b524)
          clear hown9 hgrow9 hat9 hlt9 hown hnews hw0
          refine hK2.out _ _ b524 (fun hHeld2 => ?_)
          clear hK2 K2
          try simp only [Act.put, List.getElem_toArray, List.getElem_cons_zero, List.getElem_cons_succ, List.setIfInBounds_toArray, List.set_cons_zero, List.set_cons_succ]
          refine wpAnyH_take (i := 12) (v := ?tv27) rfl (by kernel_rfl) (by kernel_rfl) (by kernel_rfl) (fun _ _ _ h => h) (Or.inl ⟨by rfl, ?ty27⟩) (by assumption) ?tr27
          case ty27 => (intro w hSw; (try dsimp only at hSw); go_simp; (try with_reducible rfl))
          try simp only [Act.put, List.getElem_toArray, List.getElem_cons_zero, List.getElem_cons_succ, List.setIfInBounds_toArray, List.set_cons_zero, List.set_cons_succ]
          refine wpAnyH_done (by kernel_rfl) ?_ _
          go_wp2
          go_ret
          rw [HLST.out]
          refine ⟨_, rfl, ?_, own_congr HO9.out.1 ?_ ?_, HO9.out.2⟩
          · intro z hz
            rcases List.mem_append.1 hz with q | q
            · exact OP.out.2 z q
            · simp at q; subst q; exact X2.out
          · simp
          · rw [hashCells_append, hashCells_one]
        · have hlt2 : ¬ (m : Int) ≤ k := by omega
          have d0 : (0 : Int) ≤ (m : Int) - k := by omega
          have d1 : (m : Int) - k < 9223372036854775808 := by omega
          have d2 : IntKind.i64.wrap ((m : Int) - k) = (m : Int) - k := IntWalk.i64_in _ (by omega)
          rw [if_neg (by omega), treesI_append] at hR
          have ihl : ∀ w2, Gr w w2 → Calls Tryd.prog 27 #[.int .i64 ((m : Int) - k), .slice (some ⟨g, o + k * 32, none⟩) (n - k) (c - k), .bool false] w2 (HList w2 (treesI L (proofL F (b + m : Nat) (b + k : Nat) (b + n : Nat)))) := fun w2 h => (by
            have := ih (b + k) (n - k) (m - k) (c - k) _ w2 (by omega) (by omega) (by omega) (by omega) (by omega) (by omega) (HE.out.step h) (HI2.out.below h)
            rwa [show b + k + (n - k) = b + n by omega, show b + k + (m - k) = b + m by omega, show ((m - k : Nat) : Int) = (m : Int) - k by omega, show decide (b + k = 0) = false by simp; omega] at this)
          obtain ⟨lP, hlP⟩ : ∃ l, treesI L (proofL F (b + m : Nat) (b + k : Nat) (b + n : Nat)) = l := ⟨_, rfl⟩
          rw [hlP] at ihl
          have hlen : lP.length ≤ 200 := by rw [← hlP]; unfold treesI; rw [List.length_map]; have := proofL_len F (b + m : Nat) (b + k : Nat) (b + n : Nat); omega
          obtain ⟨x2, hx2⟩ : ∃ x, treeI L b (b + k : Nat) = x := ⟨_, rfl⟩
          have HLST : Hid (R = lP ++ [x2]) := Lib.hid (by rw [← hR, hlP, ← hx2]; rfl)
          have X2 : Hid (x2.length = 32) := Lib.hid (by rw [← hx2]; exact l1)
          obtain ⟨v2, ev2, Hv2, Zv2, Iv2, Ov2⟩ := row_of x2 X2.out
          rw [hx2] at im1
          rw [ev2] at im1
          have IHL := Lib.hid ihl
          have IHM := Lib.hid im1
          clear ihl im1 im2 hx2 hlP ev2 hI1 hI2 hE hI ih l1 l2 hbk hbl hk hk2 e1 hR hlt hfl
          go_enter Tryd.func27, Tryd.ntmps27
          go_wp2_with fail
          refine (HHA.out w).mono ?_
          rintro ev w0 ⟨rfl, rfl⟩
          go_wp2_with fail
          refine wp_region_held_drew (S := Gr w) (by kernel_rfl) (Gr.drew (Gr.refl _)) (fun hHeld => ?_)
          refine wpAnyH_take (i := 0) (v := ?tv28) rfl (by kernel_rfl) (by kernel_rfl) (by kernel_rfl) (fun _ _ _ h => h) (Or.inl ⟨by rfl, ?ty28⟩) (by assumption) ?tr28
          case ty28 => (intro w hSw; (try dsimp only at hSw); go_simp; (try with_reducible rfl))
          try simp only [Act.put, List.getElem_toArray, List.getElem_cons_zero, List.setIfInBounds_toArray, List.set_cons_zero, List.set_cons_succ]
          refine wpAnyH_take (i := 1) (v := ?tv29) rfl (by kernel_rfl) (by kernel_rfl) (by kernel_rfl) (fun _ _ _ h => h) (Or.inl ⟨by rfl, ?ty29⟩) (by assumption) ?tr29
          case ty29 => (intro w hSw; (try dsimp only at hSw); go_simp; (try with_reducible rfl))
          try simp only [Act.put, List.getElem_toArray, List.getElem_cons_zero, List.getElem_cons_succ, List.setIfInBounds_toArray, List.set_cons_zero, List.set_cons_succ]
          refine wpAnyH_take (i := 2) (v := ?tv30) rfl (by kernel_rfl) (by kernel_rfl) (by kernel_rfl) (fun _ _ _ h => h) (Or.inl ⟨by rfl, ?ty30⟩) (by assumption) ?tr30
          case ty30 => (intro w hSw; (try dsimp only at hSw); go_simp; (try with_reducible rfl))
          try simp only [Act.put, List.getElem_toArray, List.getElem_cons_zero, List.getElem_cons_succ, List.setIfInBounds_toArray, List.set_cons_zero, List.set_cons_succ]
          refine wpAnyH_take (i := 3) (v := ?tv31) rfl (by kernel_rfl) (by kernel_rfl) (by kernel_rfl) (fun _ _ _ h => h) (Or.inl ⟨by rfl, ?ty31⟩) (by assumption) ?tr31
          case ty31 => (intro w hSw; (try dsimp only at hSw); go_simp; (try with_reducible rfl))
          try simp only [Act.put, List.getElem_toArray, List.getElem_cons_zero, List.getElem_cons_succ, List.setIfInBounds_toArray, List.set_cons_zero, List.set_cons_succ]
          refine wpAnyH_take (i := 4) (v := ?tv32) rfl (by kernel_rfl) (by kernel_rfl) (by kernel_rfl) (fun _ _ _ h => h) (Or.inl ⟨by rfl, ?ty32⟩) (by assumption) ?tr32
          case ty32 => (intro w hSw; (try dsimp only at hSw); go_simp; (try with_reducible rfl))
          try simp only [Act.put, List.getElem_toArray, List.getElem_cons_zero, List.getElem_cons_succ, List.setIfInBounds_toArray, List.set_cons_zero, List.set_cons_succ]
          refine wpAnyH_take (i := 5) (v := ?tv33) rfl (by kernel_rfl) (by kernel_rfl) (by kernel_rfl) (fun _ _ _ h => h) (Or.inl ⟨by rfl, ?ty33⟩) (by assumption) ?tr33
          case ty33 => (intro w hSw; (try dsimp only at hSw); go_simp; (try with_reducible rfl))
          try simp only [Act.put, List.getElem_toArray, List.getElem_cons_zero, List.getElem_cons_succ, List.setIfInBounds_toArray, List.set_cons_zero, List.set_cons_succ]
          refine wpAnyH_take (i := 7) (v := ?tv34) rfl (by kernel_rfl) (by kernel_rfl) (by kernel_rfl) (fun _ _ _ h => h) (Or.inl ⟨by rfl, ?ty34⟩) (by assumption) ?tr34
          case ty34 => (intro w hSw; (try dsimp only at hSw); go_simp; (try with_reducible rfl))
          try simp only [Act.put, List.getElem_toArray, List.getElem_cons_zero, List.getElem_cons_succ, List.setIfInBounds_toArray, List.set_cons_zero, List.set_cons_succ]
          refine wpAnyH_take (i := 8) (v := ?tv35) rfl (by kernel_rfl) (by kernel_rfl) (by kernel_rfl) (fun _ _ _ h => h) (Or.inl ⟨by rfl, ?ty35⟩) (by assumption) ?tr35
          case ty35 => (intro w hSw; (try dsimp only at hSw); go_simp; (try with_reducible rfl))
          try simp only [Act.put, List.getElem_toArray, List.getElem_cons_zero, List.getElem_cons_succ, List.setIfInBounds_toArray, List.set_cons_zero, List.set_cons_succ]
          refine wpAnyH_take (i := 9) (v := ?tv36) rfl (by kernel_rfl) (by kernel_rfl) (by kernel_rfl) (fun _ _ _ h => h) (Or.inl ⟨by rfl, ?ty36⟩) (by assumption) ?tr36
          case ty36 => (intro w hSw; (try dsimp only at hSw); go_simp; (try with_reducible rfl))
          try simp only [Act.put, List.getElem_toArray, List.getElem_cons_zero, List.getElem_cons_succ, List.setIfInBounds_toArray, List.set_cons_zero, List.set_cons_succ]
          refine wpAnyH_ready (rs := [6]) (by kernel_rfl) (by simp) ?_
          refine AllReadyH.cons (i := 6) rfl (fun K2 hK2 => ?_) AllReadyH.nil
          go_simp
          go_at_call 27
          refine (IHL.out w.drew (show Gr w w.drew from (Gr.drew (Gr.refl w)))).mono ?_
          rintro ev w525 ⟨vP, rfl, hP32, oP, b526⟩
          try go_wp2_with fail
          have OP := Lib.hid (And.intro oP hP32)
          clear oP hP32
          refine hK2.out _ _ (show Gr w w525 from (Gr.step (Gr.drew (Gr.refl w)) b526)) (fun hHeld2 => ?_)
          clear hK2 K2
          try simp only [Act.put, List.getElem_toArray, List.getElem_cons_zero, List.getElem_cons_succ, List.setIfInBounds_toArray, List.set_cons_zero, List.set_cons_succ]
          refine wpAnyH_ready (rs := [10]) (by kernel_rfl) (by simp) ?_
          refine AllReadyH.cons (i := 10) rfl (fun K2 hK2 => ?_) AllReadyH.nil
          go_simp
          go_at_call 24
          refine (IHM.out w525 (show Gr w w525 from (Gr.step (Gr.drew (Gr.refl w)) b526))).mono ?_
          rintro ev w527 ⟨rfl, b528⟩
          try go_wp2_with fail
          refine hK2.out _ _ (show Gr w w527 from (Gr.step (Gr.step (Gr.drew (Gr.refl w)) b526) b528)) (fun hHeld2 => ?_)
          clear hK2 K2
          try simp only [Act.put, List.getElem_toArray, List.getElem_cons_zero, List.getElem_cons_succ, List.setIfInBounds_toArray, List.set_cons_zero, List.set_cons_succ]
          refine wpAnyH_ready (rs := [11]) (by kernel_rfl) (by simp) ?_
          refine AllReadyH.cons (i := 11) rfl (fun K2 hK2 => ?_) AllReadyH.nil
          rw [if_pos (by rfl)]
          refine wp_buildSlice_row 22 26 _ v2 _ 32 rfl rfl Tryd.underlying22 Tryd.sizeOf26 Tryd.zeroValue26 rfl Zv2.out (by omega) (by omega) ?_
          obtain ⟨w529, hw529⟩ : ∃ x, w527.alloc (.cells v2 26) = x := ⟨_, rfl⟩
          have b530 : Below w527.heap.size w527 w529 := by rw [← hw529]; exact (Below.refl _ _).alloc (Nat.le_refl _) _
          have RB : Hid (w529.heap[w527.heap.size]? = some (.cells v2 26 (0, 0))) := Lib.hid (by rw [← hw529]; exact heap_alloc_new _ _)
          obtain ⟨gB, hgB⟩ : ∃ x, w527.heap.size = x := ⟨_, rfl⟩
          rw [hw529]
          rw [hgB] at RB ⊢
          clear hw529 hgB
          refine hK2.out _ _ (show Gr w w529 from (Gr.step (Gr.step (Gr.step (Gr.drew (Gr.refl w)) b526) b528) b530)) (fun hHeld2 => ?_)
          clear hK2 K2
          try simp only [Act.put, List.getElem_toArray, List.getElem_cons_zero, List.getElem_cons_succ, List.setIfInBounds_toArray, List.set_cons_zero, List.set_cons_succ]
          refine wpAnyH_ready (rs := [12]) (by kernel_rfl) (by simp) ?_
          refine AllReadyH.cons (i := 12) rfl (fun K2 hK2 => ?_) AllReadyH.nil
          have hwP := (show Gr w525 w529 from (Gr.step (Gr.step (Gr.refl w525) b528) b530))
          have hwB := (show Gr w529 w529 from (Gr.refl w529))
          have hw0 := (show Gr w w529 from (Gr.step (Gr.step (Gr.step (Gr.drew (Gr.refl w)) b526) b528) b530))
          have hown := own_mono (own_below OP.out.1 hwP (Nat.le_refl _)) (base' := w.heap.size) (by have := (show Gr w w.drew from (Gr.drew (Gr.refl w))).size; omega)
          have hnews : ∀ j u, (bytesV x2)[j]? = some u → w529.cell? ((⟨gB, 0, none⟩ : Addr).add j) = some u := news_at (((show Below _ _ _ from hwB).block _ (Array.getElem?_eq_some_iff.1 RB.out).1).trans RB.out) Hv2.out
          clear hwP hwB
          rw [if_pos (by rfl)]
          refine wp_append_lies w529 _ _ 22 rfl w.heap.size 26 i0 _ 32 32 Tryd.underlying22 hi hz0 hz1 hz2 rfl (by decide) vP _ _ rfl hown ⟨gB, 0, none⟩ 1 1 (bytesV x2) rfl (by rw [bytesV_length, X2.out]) hnews (bytesV_one x2) (by decide) (by unfold maxLen; omega) (by omega) hw0.size _ rfl ?_
          intro g9 cap9 w531 hown9 hgrow9 hat9 hlt9
          have b532 : Below w.heap.size w w531 := Below.grown hw0 hgrow9 hw0.size (fun k hk => (hown.lt k hk).1)
          have HO9 := Lib.hid (And.intro hown9 b532)
          clear hown9 hgrow9 hat9 hlt9 hown hnews hw0
          refine hK2.out _ _ b532 (fun hHeld2 => ?_)
          clear hK2 K2
          try simp only [Act.put, List.getElem_toArray, List.getElem_cons_zero, List.getElem_cons_succ, List.setIfInBounds_toArray, List.set_cons_zero, List.set_cons_succ]
          refine wpAnyH_take (i := 13) (v := ?tv37) rfl (by kernel_rfl) (by kernel_rfl) (by kernel_rfl) (fun _ _ _ h => h) (Or.inl ⟨by rfl, ?ty37⟩) (by assumption) ?tr37
          case ty37 => (intro w hSw; (try dsimp only at hSw); go_simp; (try with_reducible rfl))
          try simp only [Act.put, List.getElem_toArray, List.getElem_cons_zero, List.getElem_cons_succ, List.setIfInBounds_toArray, List.set_cons_zero, List.set_cons_succ]
          refine wpAnyH_done (by kernel_rfl) ?_ _
          go_wp2
          go_ret
          rw [HLST.out]
          refine ⟨_, rfl, ?_, own_congr HO9.out.1 ?_ ?_, HO9.out.2⟩
          · intro z hz
            rcases List.mem_append.1 hz with q | q
            · exact OP.out.2 z q
            · simp at q; subst q; exact X2.out
          · simp
          · rw [hashCells_append, hashCells_one]
end Go.Proofs.YtdodfeoaioolnaaDoor

/- cartularylaw15.batch: by the definition. Condition: the package-level variables read as listed. -/
namespace Go.Proofs.YtdodfeoaioolnaaDoor
open Go.ChangeShapes Go.WideShapes Go.ChangeAt Go.RowKit
set_option linter.unusedVariables false
theorem wp_append_list {P : Program} {w : World} {o : Oper} {a : Act} {K : Act → World → Prop} {Q : Exit → Act → World → Prop} (s x : Operand) (t : TypeId)
    (ho : o.op = .call { callee := .builtin .append, args := #[s, x], argTypes := #[t, t] })
    (base b2 : Nat) (e : TypeId) (i : TypeInfo) (z : Value) (size bytes : Nat) (ht : P.underlying t = some (.slice e)) (hi : P.info? e = some i) (hz : i.zero = some z)
    (hsize : i.size = size) (hby : i.bytes = bytes) (hzs : z.cells.size = size) (hsz : 0 < size)
    (v vx : Value) (n m : Nat) (xs news : List Value) (hs : a.eval s = v) (hx : a.eval x = vx) (hown : w.ownsRow base e size v n xs) (hsrc : w.ownsRow b2 e size vx m news) (h1 : ∀ u ∈ news, u.oneCell' = true)
    (h63 : n + m ≤ maxLen) (hbytes : (n + m) * bytes ≤ 140737488355328) (hbase : base ≤ w.heap.size)
    (h : ∀ v' w', w'.ownsRow base e size v' (n + m) (xs ++ news) → w.grownBy w' v.ownBlock → (v'.ownBlock = v.ownBlock ∨ v'.ownBlock = some w.heap.size) → K (a.put o.dst v') w') : o.wp P a w K Q := by
  rcases hsrc.2 with ⟨hv, hm⟩ | ⟨g, cap, cur, hv, _⟩
  · subst hm
    have hn : news = [] := List.eq_nil_of_length_eq_zero (by simpa using hsrc.1)
    subst hn
    have hrun := run_append_owned_none (P := P) (w := w) base t o.type e i size ht hi v n xs hown
    unfold Oper.wp
    simp [execOp, ho, resolve, invoke, builtin, hs, hx, hv, hrun, Result.andThen]
    exact (h v w (by simpa using hown) ⟨rfl, rfl, rfl, Nat.le_refl _, fun _ _ _ => rfl⟩ (.inl rfl))
  · obtain ⟨v', w', hr, h2, h3, h4, h5⟩ := run_append_own_at (P := P) w base t o.type e i z size bytes ht hi hz hsize hby hzs hsz v n xs hown ⟨g, 0, none⟩ m cap news hsrc.1 (fun j u hu => hsrc.cells (g := g) (by rw [hv]; rfl) j u hu) h1 h63 hbytes hbase
    unfold Oper.wp execOp
    simp only [ho, resolve, invoke, builtin, Sem.run_bind, Sem.run_pure, Result.andThen_ok, List.map_toArray, List.map_cons, List.map_nil, hs, hx, hv, hr]
    exact h v' w' h2 h3 h5

theorem batch_few (F : Nat) (x y b e : Int) (h : b < e) (hp : e - b ≤ pow2 F) : (batchL F x y b e).length ≤ 2 * F + 1 := batchL_len F x y b e h hp
set_option maxRecDepth 100000 in
set_option maxHeartbeats 8000000 in
theorem batch15_end (a : Nat → Addr) (B : Nat) (L : List (List UInt8)) (hL : H32 L) (F b n c : Nat) (x y : Int) (A : Option Addr) (w : World) (h1 : 1 ≤ n) (hbn : b + n ≤ L.length) (hb9 : b ≤ 1000) (hn : n ≤ 1000) (hx0 : 0 ≤ x) (hxy : x < y) (hy9 : y ≤ 1000) (ho : ((b + n : Nat) : Int) ≤ x ∨ y ≤ (b : Int)) (hE : EnvP B a w) (hI : HIn w A n c (cut L b n)) :
    Calls Tryd.prog 28 #[.int .i64 x, .int .i64 y, .int .i64 (b : Int), .slice A n c] w (HList w (treesI L (batchL F x y b (b + n : Nat)))) := by
  have e : treesI L (batchL F x y b (b + n : Nat)) = [treeI L b (b + n : Nat)] := by rw [batchL_out ho]; rfl
  have hm := mth_any a B L hL n b n c A w (Nat.le_refl _) hbn hn hE hI
  have hl := treeI_len hL b (b + n : Nat) (by omega) (by omega) (by omega) (by rw [pow2_64]; omega)
  rw [e]
  obtain ⟨z, hz⟩ : ∃ z, treeI L b (b + n : Nat) = z := ⟨_, rfl⟩
  rw [hz] at hm hl ⊢
  obtain ⟨v, ev, Hv, Zv, Iv, Ov⟩ := row_of z hl
  rw [ev] at hm
  have HM := Lib.hid hm
  have HL := Lib.hid hl
  obtain ⟨bI, hbI⟩ : ∃ q : Int, (b : Int) = q := ⟨_, rfl⟩
  obtain ⟨nI, hnI⟩ : ∃ q : Int, (n : Int) = q := ⟨_, rfl⟩
  have e9 : ((b + n : Nat) : Int) = bI + nI := by omega
  rw [e9, hbI] at ho
  rw [hbI]
  have q1 : 0 ≤ bI ∧ bI ≤ 1000 := by omega
  have q2 : 1 ≤ nI ∧ nI ≤ 1000 := by omega
  have HNI := Lib.hid hnI
  have hwr : IntKind.i64.wrap (bI + nI) = bI + nI := IntWalk.i64_in _ (by omega)
  have hwr2 : IntKind.i64.wrap (bI + (n : Int)) = bI + (n : Int) := IntWalk.i64_in _ (by omega)
  have hno : ¬ (x ≤ bI ∧ bI + (n : Int) ≤ y) := by omega
  clear e hz ev hm hl hE hI hbI e9
  by_cases h3 : x ≤ bI
  · have h4 : ¬ (bI + (n : Int) ≤ y) := fun q => hno ⟨h3, q⟩
    have h5 : y ≤ bI := by omega
    clear ho hno
    go_enter Tryd.func28, Tryd.ntmps28
    go_wp2_with fail
    refine HM.out.mono ?_
    rintro ev w1 ⟨rfl, b1⟩
    go_wp2_with (refine wpList_buildSlice_row rfl 22 26 _ v _ 32 rfl rfl Tryd.underlying22 Tryd.sizeOf26 Tryd.zeroValue26 rfl Zv.out (by omega) (by omega) ?_)
    go_ret
    exact hlist_one w w1 v z HL.out Hv.out b1
  · by_cases h5 : y ≤ bI
    · clear ho hno
      go_enter Tryd.func28, Tryd.ntmps28
      go_wp2_with fail
      refine HM.out.mono ?_
      rintro ev w1 ⟨rfl, b1⟩
      go_wp2_with (refine wpList_buildSlice_row rfl 22 26 _ v _ 32 rfl rfl Tryd.underlying22 Tryd.sizeOf26 Tryd.zeroValue26 rfl Zv.out (by omega) (by omega) ?_)
      go_ret
      exact hlist_one w w1 v z HL.out Hv.out b1
    · have h6 : bI + (n : Int) ≤ x := by omega
      clear ho hno
      go_enter Tryd.func28, Tryd.ntmps28
      go_wp2_with fail
      refine HM.out.mono ?_
      rintro ev w1 ⟨rfl, b1⟩
      go_wp2_with (refine wpList_buildSlice_row rfl 22 26 _ v _ 32 rfl rfl Tryd.underlying22 Tryd.sizeOf26 Tryd.zeroValue26 rfl Zv.out (by omega) (by omega) ?_)
      go_ret
      exact hlist_one w w1 v z HL.out Hv.out b1
set_option maxRecDepth 100000 in
set_option maxHeartbeats 8000000 in
theorem batch15_in (L : List (List UInt8)) (F b n c : Nat) (x y : Int) (A : Option Addr) (w : World) (h1 : 1 ≤ n) (hb9 : b ≤ 1000) (hn : n ≤ 1000) (hi : x ≤ (b : Int) ∧ ((b + n : Nat) : Int) ≤ y) :
    Calls Tryd.prog 28 #[.int .i64 x, .int .i64 y, .int .i64 (b : Int), .slice A n c] w (HList w (treesI L (batchL F x y b (b + n : Nat)))) := by
  have e : treesI L (batchL F x y b (b + n : Nat)) = [] := by rw [batchL_in (by omega) hi]; rfl
  rw [e]
  obtain ⟨bI, hbI⟩ : ∃ q : Int, (b : Int) = q := ⟨_, rfl⟩
  have e9 : ((b + n : Nat) : Int) = bI + (n : Int) := by omega
  rw [e9, hbI] at hi
  rw [hbI]
  have q1 : 0 ≤ bI ∧ bI ≤ 1000 := by omega
  have hwr2 : IntKind.i64.wrap (bI + (n : Int)) = bI + (n : Int) := IntWalk.i64_in _ (by omega)
  have h3 := hi.1
  have h4 := hi.2
  clear e hbI e9 hi
  go_enter Tryd.func28, Tryd.ntmps28
  go_wp2
  go_ret
  exact hlist_nil w
set_option maxRecDepth 100000 in
set_option maxHeartbeats 8000000 in
theorem batch15_any (a : Nat → Addr) (B : Nat) (L : List (List UInt8)) (hL : H32 L) (x y : Int) (hx0 : 0 ≤ x) (hxy : x < y) (hy9 : y ≤ 1000) : ∀ (F b n c : Nat) (A : Option Addr) (w : World), (n : Int) ≤ pow2 F → 1 ≤ n → b + n ≤ L.length → b + n ≤ 1000 → n ≤ 1000 → F ≤ 64 → EnvP B a w → HIn w A n c (cut L b n) →
    Calls Tryd.prog 28 #[.int .i64 x, .int .i64 y, .int .i64 (b : Int), .slice A n c] w (HList w (treesI L (batchL F x y b (b + n : Nat)))) := by
  intro F
  induction F with
  | zero =>
    intro b n c A w hF hn1 hbn hb9 hn h64 hE hI
    rw [pow2_zero] at hF
    by_cases ho : ((b + n : Nat) : Int) ≤ x ∨ y ≤ (b : Int)
    · exact batch15_end a B L hL 0 b n c x y A w hn1 hbn (by omega) hn hx0 hxy hy9 ho hE hI
    · exact batch15_in L 0 b n c x y A w hn1 (by omega) hn (by omega)
  | succ F ih =>
    intro b n c A w hF hn1 hbn hb9 hn h64 hE hI
    by_cases ho : ((b + n : Nat) : Int) ≤ x ∨ y ≤ (b : Int)
    · exact batch15_end a B L hL (F + 1) b n c x y A w hn1 hbn (by omega) hn hx0 hxy hy9 ho hE hI
    · by_cases hin : x ≤ (b : Int) ∧ ((b + n : Nat) : Int) ≤ y
      · exact batch15_in L (F + 1) b n c x y A w hn1 (by omega) hn hin
      · obtain ⟨R, hR⟩ : ∃ R, treesI L (batchL (F + 1) x y b (b + n : Nat)) = R := ⟨_, rfl⟩
        rw [hR]
        rw [batchL_half ho hin, treesI_append] at hR
        have hn2 : 2 ≤ n := by omega
        have HOI := Lib.hid (And.intro ho hin)
        clear ho hin
        have hk1 := blw_lt (n := n) (by omega)
        have hk0 := blw_pos n
        have hk2 := blw_dbl (n := n) (by omega)
        have HHA := Lib.hid (fun w' => half_any n w' (by omega) (by omega))
        have hkF := blwI_le_pow (n := (n : Int)) (f := F) (by omega) hF
        obtain ⟨k, hk⟩ : ∃ k, blw n = k := ⟨_, rfl⟩
        have hbl : blwI (n : Int) = (k : Int) := by rw [← hk]; unfold blwI; rw [Int.toNat_natCast]
        rw [hk] at hk1 hk0 hk2 HHA
        rw [hbl] at hkF
        have hbk : blwI (((b + n : Nat) : Int) - (b : Int)) = (k : Int) := by rw [show ((b + n : Nat) : Int) - (b : Int) = (n : Int) by omega, hbl]
        obtain ⟨yq, hy⟩ : ∃ yq, (cut L b n)[0]? = some yq := ⟨_, List.getElem?_eq_getElem (by rw [cut_len hbn]; omega)⟩
        obtain ⟨g, o, rfl, gl, ry, yl⟩ := hI.row hy
        have hnc := hI.2.2.1
        have l1 := treeI_len hL b (b + k : Nat) (by omega) (by omega) (by omega) (by rw [pow2_64]; omega)
        have l2 := treeI_len hL (b + k : Nat) (b + n : Nat) (by omega) (by omega) (by omega) (by rw [pow2_64]; omega)
        have hI1 := hin_take hI (k := k) (by omega)
        rw [cut_take _ _ _ _ (by omega)] at hI1
        have hI2 := hin_drop hI (k := k) (by omega)
        rw [cut_drop _ _ _ _ (by omega)] at hI2
        have HI1 := Lib.hid hI1
        have HI2 := Lib.hid hI2
        have HE := Lib.hid hE
        have im1 : ∀ w', Gr w w' → Calls Tryd.prog 24 #[.slice (some ⟨g, o, none⟩) k c] w' fun ev w2 => ev = .returned (hv (treeI L b (b + k : Nat))) ∧ Below w'.heap.size w' w2 := fun w' h => mth_any a B L hL k b k c _ w' (Nat.le_refl _) (by omega) (by omega) (HE.out.step h) (HI1.out.below h)
        have im2 : ∀ w', Gr w w' → Calls Tryd.prog 24 #[.slice (some ⟨g, o + k * 32, none⟩) (n - k) (c - k)] w' fun ev w2 => ev = .returned (hv (treeI L (b + k : Nat) (b + n : Nat))) ∧ Below w'.heap.size w' w2 := fun w' h => by
          have := mth_any a B L hL (n - k) (b + k) (n - k) (c - k) _ w' (Nat.le_refl _) (by omega) (by omega) (HE.out.step h) (HI2.out.below h)
          rwa [show b + k + (n - k) = b + n by omega] at this
        have e1 : ((b : Nat) : Int) + (k : Int) = ((b + k : Nat) : Int) := by omega
        have i1 : (k : Int) ≤ n := by omega
        have i2 : (n : Int) ≤ c := by omega
        have i3 : (k : Int) ≤ c := by omega
        have i4 : (0 : Int) ≤ k := by omega
        have z1 : (c = k) = False := by simp; omega
        have z2 : ¬ c = k := by omega
        obtain ⟨i0, hi, hz0, hz1, hz2⟩ := info_parts info_hash
        clear hy ry yl gl
        rw [hbk, e1] at hR
        have ihl : ∀ w2, Gr w w2 → Calls Tryd.prog 28 #[.int .i64 x, .int .i64 y, .int .i64 (b : Int), .slice (some ⟨g, o, none⟩) k c] w2 (HList w2 (treesI L (batchL F x y b (b + k : Nat)))) := fun w2 h => ih b k c _ w2 hkF hk0 (by omega) (by omega) (by omega) (by omega) (HE.out.step h) (HI1.out.below h)
        have ihr : ∀ w2, Gr w w2 → Calls Tryd.prog 28 #[.int .i64 x, .int .i64 y, .int .i64 ((b : Int) + k), .slice (some ⟨g, o + k * 32, none⟩) (n - k) (c - k)] w2 (HList w2 (treesI L (batchL F x y (b + k : Nat) (b + n : Nat)))) := fun w2 h => by
          have := ih (b + k) (n - k) (c - k) _ w2 (by omega) (by omega) (by omega) (by omega) (by omega) (by omega) (HE.out.step h) (HI2.out.below h)
          rw [show b + k + (n - k) = b + n by omega] at this
          rw [e1]
          exact this
        have ln1 : (treesI L (batchL F x y b (b + k : Nat))).length ≤ 200 := by unfold treesI; rw [List.length_map]; have := batch_few F x y b (b + k : Nat) (by omega) (by omega); omega
        have ln2 : (treesI L (batchL F x y (b + k : Nat) (b + n : Nat))).length ≤ 200 := by unfold treesI; rw [List.length_map]; have := batch_few F x y (b + k : Nat) (b + n : Nat) (by omega) (by omega); omega
        obtain ⟨lP, hlP⟩ : ∃ l, treesI L (batchL F x y b (b + k : Nat)) = l := ⟨_, rfl⟩
        obtain ⟨lQ, hlQ⟩ : ∃ l, treesI L (batchL F x y (b + k : Nat) (b + n : Nat)) = l := ⟨_, rfl⟩
        rw [hlP] at ihl ln1 hR
        rw [hlQ] at ihr ln2 hR
        have HLST : Hid (R = lP ++ lQ) := Lib.hid hR.symm
        obtain ⟨bI, hbI⟩ : ∃ q : Int, (b : Int) = q := ⟨_, rfl⟩
        rw [hbI] at ihl ihr
        have IHA := Lib.hid ihl
        have IHB := Lib.hid ihr
        have e9 : ((b + n : Nat) : Int) = bI + (n : Int) := by omega
        obtain ⟨ho, hin⟩ := HOI.out
        rw [e9, hbI] at ho hin
        rw [hbI]
        clear HOI
        have q1 : 0 ≤ bI ∧ bI ≤ 1000 := by omega
        have hwr2 : IntKind.i64.wrap (bI + (n : Int)) = bI + (n : Int) := IntWalk.i64_in _ (by omega)
        have d2 : IntKind.i64.wrap (bI + (k : Int)) = bI + (k : Int) := IntWalk.i64_in _ (by omega)
        have o1 : ¬ y ≤ bI := by omega
        have o2 : ¬ bI + (n : Int) ≤ x := by omega
        clear ihl ihr im1 im2 hlP hlQ hI1 hI2 hE hI ih l1 l2 hbk hbl hk hk2 e1 hR hbI e9 ho
        by_cases h3 : x ≤ bI
        · have h4 : ¬ (bI + (n : Int) ≤ y) := fun q => hin ⟨h3, q⟩
          clear hin
          go_enter Tryd.func28, Tryd.ntmps28
          go_wp2_with fail
          refine (HHA.out w).mono ?_
          rintro ev w0 ⟨rfl, rfl⟩
          go_wp2_with fail
          refine wp_region_held_drew (S := Gr w) (by kernel_rfl) (Gr.drew (Gr.refl _)) (fun hHeld => ?_)
          refine wpAnyH_take (i := 0) (v := ?tv1) rfl (by kernel_rfl) (by kernel_rfl) (by kernel_rfl) (fun _ _ _ h => h) (Or.inl ⟨by rfl, ?ty1⟩) (by assumption) ?tr1
          case ty1 => (intro w hSw; (try dsimp only at hSw); go_simp; (try with_reducible rfl))
          try simp only [Act.put, List.getElem_toArray, List.getElem_cons_zero, List.setIfInBounds_toArray, List.set_cons_zero, List.set_cons_succ]
          refine wpAnyH_take (i := 1) (v := ?tv2) rfl (by kernel_rfl) (by kernel_rfl) (by kernel_rfl) (fun _ _ _ h => h) (Or.inl ⟨by rfl, ?ty2⟩) (by assumption) ?tr2
          case ty2 => (intro w hSw; (try dsimp only at hSw); go_simp; (try with_reducible rfl))
          try simp only [Act.put, List.getElem_toArray, List.getElem_cons_zero, List.getElem_cons_succ, List.setIfInBounds_toArray, List.set_cons_zero, List.set_cons_succ]
          refine wpAnyH_take (i := 2) (v := ?tv3) rfl (by kernel_rfl) (by kernel_rfl) (by kernel_rfl) (fun _ _ _ h => h) (Or.inl ⟨by rfl, ?ty3⟩) (by assumption) ?tr3
          case ty3 => (intro w hSw; (try dsimp only at hSw); go_simp; (try with_reducible rfl))
          try simp only [Act.put, List.getElem_toArray, List.getElem_cons_zero, List.getElem_cons_succ, List.setIfInBounds_toArray, List.set_cons_zero, List.set_cons_succ]
          refine wpAnyH_take (i := 3) (v := ?tv4) rfl (by kernel_rfl) (by kernel_rfl) (by kernel_rfl) (fun _ _ _ h => h) (Or.inl ⟨by rfl, ?ty4⟩) (by assumption) ?tr4
          case ty4 => (intro w hSw; (try dsimp only at hSw); go_simp; (try with_reducible rfl))
          try simp only [Act.put, List.getElem_toArray, List.getElem_cons_zero, List.getElem_cons_succ, List.setIfInBounds_toArray, List.set_cons_zero, List.set_cons_succ]
          refine wpAnyH_take (i := 4) (v := ?tv5) rfl (by kernel_rfl) (by kernel_rfl) (by kernel_rfl) (fun _ _ _ h => h) (Or.inl ⟨by rfl, ?ty5⟩) (by assumption) ?tr5
          case ty5 => (intro w hSw; (try dsimp only at hSw); go_simp; (try with_reducible rfl))
          try simp only [Act.put, List.getElem_toArray, List.getElem_cons_zero, List.getElem_cons_succ, List.setIfInBounds_toArray, List.set_cons_zero, List.set_cons_succ]
          refine wpAnyH_take (i := 5) (v := ?tv6) rfl (by kernel_rfl) (by kernel_rfl) (by kernel_rfl) (fun _ _ _ h => h) (Or.inl ⟨by rfl, ?ty6⟩) (by assumption) ?tr6
          case ty6 => (intro w hSw; (try dsimp only at hSw); go_simp; (try with_reducible rfl))
          try simp only [Act.put, List.getElem_toArray, List.getElem_cons_zero, List.getElem_cons_succ, List.setIfInBounds_toArray, List.set_cons_zero, List.set_cons_succ]
          refine wpAnyH_take (i := 7) (v := ?tv7) rfl (by kernel_rfl) (by kernel_rfl) (by kernel_rfl) (fun _ _ _ h => h) (Or.inl ⟨by rfl, ?ty7⟩) (by assumption) ?tr7
          case ty7 => (intro w hSw; (try dsimp only at hSw); go_simp; (try with_reducible rfl))
          try simp only [Act.put, List.getElem_toArray, List.getElem_cons_zero, List.getElem_cons_succ, List.setIfInBounds_toArray, List.set_cons_zero, List.set_cons_succ]
          refine wpAnyH_take (i := 8) (v := ?tv8) rfl (by kernel_rfl) (by kernel_rfl) (by kernel_rfl) (fun _ _ _ h => h) (Or.inl ⟨by rfl, ?ty8⟩) (by assumption) ?tr8
          case ty8 => (intro w hSw; (try dsimp only at hSw); go_simp; (try with_reducible rfl))
          try simp only [Act.put, List.getElem_toArray, List.getElem_cons_zero, List.getElem_cons_succ, List.setIfInBounds_toArray, List.set_cons_zero, List.set_cons_succ]
          refine wpAnyH_take (i := 9) (v := ?tv9) rfl (by kernel_rfl) (by kernel_rfl) (by kernel_rfl) (fun _ _ _ h => h) (Or.inl ⟨by rfl, ?ty9⟩) (by assumption) ?tr9
          case ty9 => (intro w hSw; (try dsimp only at hSw); go_simp; (try with_reducible rfl))
          try simp only [Act.put, List.getElem_toArray, List.getElem_cons_zero, List.getElem_cons_succ, List.setIfInBounds_toArray, List.set_cons_zero, List.set_cons_succ]
          refine wpAnyH_take (i := 10) (v := ?tv10) rfl (by kernel_rfl) (by kernel_rfl) (by kernel_rfl) (fun _ _ _ h => h) (Or.inl ⟨by rfl, ?ty10⟩) (by assumption) ?tr10
          case ty10 => (intro w hSw; (try dsimp only at hSw); go_simp; (try with_reducible rfl))
          try simp only [Act.put, List.getElem_toArray, List.getElem_cons_zero, List.getElem_cons_succ, List.setIfInBounds_toArray, List.set_cons_zero, List.set_cons_succ]
          refine wpAnyH_take (i := 11) (v := ?tv11) rfl (by kernel_rfl) (by kernel_rfl) (by kernel_rfl) (fun _ _ _ h => h) (Or.inl ⟨by rfl, ?ty11⟩) (by assumption) ?tr11
          case ty11 => (intro w hSw; (try dsimp only at hSw); go_simp; (try with_reducible rfl))
          try simp only [Act.put, List.getElem_toArray, List.getElem_cons_zero, List.getElem_cons_succ, List.setIfInBounds_toArray, List.set_cons_zero, List.set_cons_succ]
          refine wpAnyH_take (i := 12) (v := ?tv12) rfl (by kernel_rfl) (by kernel_rfl) (by kernel_rfl) (fun _ _ _ h => h) (Or.inl ⟨by rfl, ?ty12⟩) (by assumption) ?tr12
          case ty12 => (intro w hSw; (try dsimp only at hSw); go_simp; (try with_reducible rfl))
          try simp only [Act.put, List.getElem_toArray, List.getElem_cons_zero, List.getElem_cons_succ, List.setIfInBounds_toArray, List.set_cons_zero, List.set_cons_succ]
          refine wpAnyH_take (i := 13) (v := ?tv13) rfl (by kernel_rfl) (by kernel_rfl) (by kernel_rfl) (fun _ _ _ h => h) (Or.inl ⟨by rfl, ?ty13⟩) (by assumption) ?tr13
          case ty13 => (intro w hSw; (try dsimp only at hSw); go_simp; (try with_reducible rfl))
          try simp only [Act.put, List.getElem_toArray, List.getElem_cons_zero, List.getElem_cons_succ, List.setIfInBounds_toArray, List.set_cons_zero, List.set_cons_succ]
          refine wpAnyH_take (i := 14) (v := ?tv14) rfl (by kernel_rfl) (by kernel_rfl) (by kernel_rfl) (fun _ _ _ h => h) (Or.inl ⟨by rfl, ?ty14⟩) (by assumption) ?tr14
          case ty14 => (intro w hSw; (try dsimp only at hSw); go_simp; (try with_reducible rfl))
          try simp only [Act.put, List.getElem_toArray, List.getElem_cons_zero, List.getElem_cons_succ, List.setIfInBounds_toArray, List.set_cons_zero, List.set_cons_succ]
          refine wpAnyH_ready (rs := [6]) (by kernel_rfl) (by simp) ?_
          refine AllReadyH.cons (i := 6) rfl (fun K2 hK2 => ?_) AllReadyH.nil
          go_simp
          go_at_call 28
          refine (IHA.out w.drew (show Gr w w.drew from (Gr.drew (Gr.refl w)))).mono ?_
          rintro ev w501 ⟨vP, rfl, hP32, oP, b502⟩
          try go_wp2_with fail
          have OP := Lib.hid (And.intro oP hP32)
          clear oP hP32
          refine hK2.out _ _ (show Gr w w501 from (Gr.step (Gr.drew (Gr.refl w)) b502)) (fun hHeld2 => ?_)
          clear hK2 K2
          try simp only [Act.put, List.getElem_toArray, List.getElem_cons_zero, List.getElem_cons_succ, List.setIfInBounds_toArray, List.set_cons_zero, List.set_cons_succ]
          refine wpAnyH_ready (rs := [15]) (by kernel_rfl) (by simp) ?_
          refine AllReadyH.cons (i := 15) rfl (fun K2 hK2 => ?_) AllReadyH.nil
          go_simp
          go_at_call 28
          refine (IHB.out w501 (show Gr w w501 from (Gr.step (Gr.drew (Gr.refl w)) b502))).mono ?_
          rintro ev w503 ⟨vQ, rfl, hQ32, oQ, b504⟩
          try go_wp2_with fail
          have OQ := Lib.hid (And.intro oQ hQ32)
          clear oQ hQ32
          refine hK2.out _ _ (show Gr w w503 from (Gr.step (Gr.step (Gr.drew (Gr.refl w)) b502) b504)) (fun hHeld2 => ?_)
          clear hK2 K2
          try simp only [Act.put, List.getElem_toArray, List.getElem_cons_zero, List.getElem_cons_succ, List.setIfInBounds_toArray, List.set_cons_zero, List.set_cons_succ]
          refine wpAnyH_ready (rs := [16]) (by kernel_rfl) (by simp) ?_
          refine AllReadyH.cons (i := 16) rfl (fun K2 hK2 => ?_) AllReadyH.nil
          have hwP := (show Gr w501 w503 from (Gr.step (Gr.refl w501) b504))
          have hwQ := (show Gr w503 w503 from (Gr.refl w503))
          have hw0 := (show Gr w w503 from (Gr.step (Gr.step (Gr.drew (Gr.refl w)) b502) b504))
          have hown := own_mono (own_below OP.out.1 hwP (Nat.le_refl _)) (base' := w.heap.size) (by have := (show Gr w w.drew from (Gr.drew (Gr.refl w))).size; omega)
          have hsrc := own_below OQ.out.1 hwQ (Nat.le_refl _)
          clear hwP hwQ
          rw [if_pos (by rfl)]
          refine wp_append_list _ _ 22 rfl w.heap.size _ 26 i0 _ 32 32 Tryd.underlying22 hi hz0 hz1 hz2 rfl (by decide) vP vQ _ _ _ _ rfl rfl hown hsrc (hashCells_cell _) (by unfold maxLen; omega) (by omega) hw0.size ?_
          intro v9 w505 hown9 hgrow9 hat9
          have b506 : Below w.heap.size w w505 := Below.grown hw0 hgrow9 hw0.size (fun k hk => (hown.lt k hk).1)
          have HO9 := Lib.hid (And.intro hown9 b506)
          clear hown9 hgrow9 hat9 hown hsrc hw0
          refine hK2.out _ _ b506 (fun hHeld2 => ?_)
          clear hK2 K2
          try simp only [Act.put, List.getElem_toArray, List.getElem_cons_zero, List.getElem_cons_succ, List.setIfInBounds_toArray, List.set_cons_zero, List.set_cons_succ]
          refine wpAnyH_take (i := 17) (v := ?tv15) rfl (by kernel_rfl) (by kernel_rfl) (by kernel_rfl) (fun _ _ _ h => h) (Or.inl ⟨by rfl, ?ty15⟩) (by assumption) ?tr15
          case ty15 => (intro w hSw; (try dsimp only at hSw); go_simp; (try with_reducible rfl))
          try simp only [Act.put, List.getElem_toArray, List.getElem_cons_zero, List.getElem_cons_succ, List.setIfInBounds_toArray, List.set_cons_zero, List.set_cons_succ]
          refine wpAnyH_done (by kernel_rfl) ?_ _
          go_wp2
          go_ret
          rw [HLST.out]
          refine ⟨_, rfl, ?_, own_congr HO9.out.1 ?_ ?_, HO9.out.2⟩
          · intro z hz
            rcases List.mem_append.1 hz with q | q
            · exact OP.out.2 z q
            · exact OQ.out.2 z q
          · simp
          · rw [hashCells_append]
        · clear hin
          go_enter Tryd.func28, Tryd.ntmps28
          go_wp2_with fail
          refine (HHA.out w).mono ?_
          rintro ev w0 ⟨rfl, rfl⟩
          go_wp2_with fail
          refine wp_region_held_drew (S := Gr w) (by kernel_rfl) (Gr.drew (Gr.refl _)) (fun hHeld => ?_)
          refine wpAnyH_take (i := 0) (v := ?tv16) rfl (by kernel_rfl) (by kernel_rfl) (by kernel_rfl) (fun _ _ _ h => h) (Or.inl ⟨by rfl, ?ty16⟩) (by assumption) ?tr16
          case ty16 => (intro w hSw; (try dsimp only at hSw); go_simp; (try with_reducible rfl))
          try simp only [Act.put, List.getElem_toArray, List.getElem_cons_zero, List.setIfInBounds_toArray, List.set_cons_zero, List.set_cons_succ]
          refine wpAnyH_take (i := 1) (v := ?tv17) rfl (by kernel_rfl) (by kernel_rfl) (by kernel_rfl) (fun _ _ _ h => h) (Or.inl ⟨by rfl, ?ty17⟩) (by assumption) ?tr17
          case ty17 => (intro w hSw; (try dsimp only at hSw); go_simp; (try with_reducible rfl))
          try simp only [Act.put, List.getElem_toArray, List.getElem_cons_zero, List.getElem_cons_succ, List.setIfInBounds_toArray, List.set_cons_zero, List.set_cons_succ]
          refine wpAnyH_take (i := 2) (v := ?tv18) rfl (by kernel_rfl) (by kernel_rfl) (by kernel_rfl) (fun _ _ _ h => h) (Or.inl ⟨by rfl, ?ty18⟩) (by assumption) ?tr18
          case ty18 => (intro w hSw; (try dsimp only at hSw); go_simp; (try with_reducible rfl))
          try simp only [Act.put, List.getElem_toArray, List.getElem_cons_zero, List.getElem_cons_succ, List.setIfInBounds_toArray, List.set_cons_zero, List.set_cons_succ]
          refine wpAnyH_take (i := 3) (v := ?tv19) rfl (by kernel_rfl) (by kernel_rfl) (by kernel_rfl) (fun _ _ _ h => h) (Or.inl ⟨by rfl, ?ty19⟩) (by assumption) ?tr19
          case ty19 => (intro w hSw; (try dsimp only at hSw); go_simp; (try with_reducible rfl))
          try simp only [Act.put, List.getElem_toArray, List.getElem_cons_zero, List.getElem_cons_succ, List.setIfInBounds_toArray, List.set_cons_zero, List.set_cons_succ]
          refine wpAnyH_take (i := 4) (v := ?tv20) rfl (by kernel_rfl) (by kernel_rfl) (by kernel_rfl) (fun _ _ _ h => h) (Or.inl ⟨by rfl, ?ty20⟩) (by assumption) ?tr20
          case ty20 => (intro w hSw; (try dsimp only at hSw); go_simp; (try with_reducible rfl))
          try simp only [Act.put, List.getElem_toArray, List.getElem_cons_zero, List.getElem_cons_succ, List.setIfInBounds_toArray, List.set_cons_zero, List.set_cons_succ]
          refine wpAnyH_take (i := 5) (v := ?tv21) rfl (by kernel_rfl) (by kernel_rfl) (by kernel_rfl) (fun _ _ _ h => h) (Or.inl ⟨by rfl, ?ty21⟩) (by assumption) ?tr21
          case ty21 => (intro w hSw; (try dsimp only at hSw); go_simp; (try with_reducible rfl))
          try simp only [Act.put, List.getElem_toArray, List.getElem_cons_zero, List.getElem_cons_succ, List.setIfInBounds_toArray, List.set_cons_zero, List.set_cons_succ]
          refine wpAnyH_take (i := 7) (v := ?tv22) rfl (by kernel_rfl) (by kernel_rfl) (by kernel_rfl) (fun _ _ _ h => h) (Or.inl ⟨by rfl, ?ty22⟩) (by assumption) ?tr22
          case ty22 => (intro w hSw; (try dsimp only at hSw); go_simp; (try with_reducible rfl))
          try simp only [Act.put, List.getElem_toArray, List.getElem_cons_zero, List.getElem_cons_succ, List.setIfInBounds_toArray, List.set_cons_zero, List.set_cons_succ]
          refine wpAnyH_take (i := 8) (v := ?tv23) rfl (by kernel_rfl) (by kernel_rfl) (by kernel_rfl) (fun _ _ _ h => h) (Or.inl ⟨by rfl, ?ty23⟩) (by assumption) ?tr23
          case ty23 => (intro w hSw; (try dsimp only at hSw); go_simp; (try with_reducible rfl))
          try simp only [Act.put, List.getElem_toArray, List.getElem_cons_zero, List.getElem_cons_succ, List.setIfInBounds_toArray, List.set_cons_zero, List.set_cons_succ]
          refine wpAnyH_take (i := 9) (v := ?tv24) rfl (by kernel_rfl) (by kernel_rfl) (by kernel_rfl) (fun _ _ _ h => h) (Or.inl ⟨by rfl, ?ty24⟩) (by assumption) ?tr24
          case ty24 => (intro w hSw; (try dsimp only at hSw); go_simp; (try with_reducible rfl))
          try simp only [Act.put, List.getElem_toArray, List.getElem_cons_zero, List.getElem_cons_succ, List.setIfInBounds_toArray, List.set_cons_zero, List.set_cons_succ]
          refine wpAnyH_take (i := 10) (v := ?tv25) rfl (by kernel_rfl) (by kernel_rfl) (by kernel_rfl) (fun _ _ _ h => h) (Or.inl ⟨by rfl, ?ty25⟩) (by assumption) ?tr25
          case ty25 => (intro w hSw; (try dsimp only at hSw); go_simp; (try with_reducible rfl))
          try simp only [Act.put, List.getElem_toArray, List.getElem_cons_zero, List.getElem_cons_succ, List.setIfInBounds_toArray, List.set_cons_zero, List.set_cons_succ]
          refine wpAnyH_take (i := 11) (v := ?tv26) rfl (by kernel_rfl) (by kernel_rfl) (by kernel_rfl) (fun _ _ _ h => h) (Or.inl ⟨by rfl, ?ty26⟩) (by assumption) ?tr26
          case ty26 => (intro w hSw; (try dsimp only at hSw); go_simp; (try with_reducible rfl))
          try simp only [Act.put, List.getElem_toArray, List.getElem_cons_zero, List.getElem_cons_succ, List.setIfInBounds_toArray, List.set_cons_zero, List.set_cons_succ]
          refine wpAnyH_take (i := 12) (v := ?tv27) rfl (by kernel_rfl) (by kernel_rfl) (by kernel_rfl) (fun _ _ _ h => h) (Or.inl ⟨by rfl, ?ty27⟩) (by assumption) ?tr27
          case ty27 => (intro w hSw; (try dsimp only at hSw); go_simp; (try with_reducible rfl))
          try simp only [Act.put, List.getElem_toArray, List.getElem_cons_zero, List.getElem_cons_succ, List.setIfInBounds_toArray, List.set_cons_zero, List.set_cons_succ]
          refine wpAnyH_take (i := 13) (v := ?tv28) rfl (by kernel_rfl) (by kernel_rfl) (by kernel_rfl) (fun _ _ _ h => h) (Or.inl ⟨by rfl, ?ty28⟩) (by assumption) ?tr28
          case ty28 => (intro w hSw; (try dsimp only at hSw); go_simp; (try with_reducible rfl))
          try simp only [Act.put, List.getElem_toArray, List.getElem_cons_zero, List.getElem_cons_succ, List.setIfInBounds_toArray, List.set_cons_zero, List.set_cons_succ]
          refine wpAnyH_take (i := 14) (v := ?tv29) rfl (by kernel_rfl) (by kernel_rfl) (by kernel_rfl) (fun _ _ _ h => h) (Or.inl ⟨by rfl, ?ty29⟩) (by assumption) ?tr29
          case ty29 => (intro w hSw; (try dsimp only at hSw); go_simp; (try with_reducible rfl))
          try simp only [Act.put, List.getElem_toArray, List.getElem_cons_zero, List.getElem_cons_succ, List.setIfInBounds_toArray, List.set_cons_zero, List.set_cons_succ]
          refine wpAnyH_ready (rs := [6]) (by kernel_rfl) (by simp) ?_
          refine AllReadyH.cons (i := 6) rfl (fun K2 hK2 => ?_) AllReadyH.nil
          go_simp
          go_at_call 28
          refine (IHA.out w.drew (show Gr w w.drew from (Gr.drew (Gr.refl w)))).mono ?_
          rintro ev w507 ⟨vP, rfl, hP32, oP, b508⟩
          try go_wp2_with fail
          have OP := Lib.hid (And.intro oP hP32)
          clear oP hP32
          refine hK2.out _ _ (show Gr w w507 from (Gr.step (Gr.drew (Gr.refl w)) b508)) (fun hHeld2 => ?_)
          clear hK2 K2
          try simp only [Act.put, List.getElem_toArray, List.getElem_cons_zero, List.getElem_cons_succ, List.setIfInBounds_toArray, List.set_cons_zero, List.set_cons_succ]
          refine wpAnyH_ready (rs := [15]) (by kernel_rfl) (by simp) ?_
          refine AllReadyH.cons (i := 15) rfl (fun K2 hK2 => ?_) AllReadyH.nil
          go_simp
          go_at_call 28
          refine (IHB.out w507 (show Gr w w507 from (Gr.step (Gr.drew (Gr.refl w)) b508))).mono ?_
          rintro ev w509 ⟨vQ, rfl, hQ32, oQ, b510⟩
          try go_wp2_with fail
          have OQ := Lib.hid (And.intro oQ hQ32)
          clear oQ hQ32
          refine hK2.out _ _ (show Gr w w509 from (Gr.step (Gr.step (Gr.drew (Gr.refl w)) b508) b510)) (fun hHeld2 => ?_)
          clear hK2 K2
          try simp only [Act.put, List.getElem_toArray, List.getElem_cons_zero, List.getElem_cons_succ, List.setIfInBounds_toArray, List.set_cons_zero, List.set_cons_succ]
          refine wpAnyH_ready (rs := [16]) (by kernel_rfl) (by simp) ?_
          refine AllReadyH.cons (i := 16) rfl (fun K2 hK2 => ?_) AllReadyH.nil
          have hwP := (show Gr w507 w509 from (Gr.step (Gr.refl w507) b510))
          have hwQ := (show Gr w509 w509 from (Gr.refl w509))
          have hw0 := (show Gr w w509 from (Gr.step (Gr.step (Gr.drew (Gr.refl w)) b508) b510))
          have hown := own_mono (own_below OP.out.1 hwP (Nat.le_refl _)) (base' := w.heap.size) (by have := (show Gr w w.drew from (Gr.drew (Gr.refl w))).size; omega)
          have hsrc := own_below OQ.out.1 hwQ (Nat.le_refl _)
          clear hwP hwQ
          rw [if_pos (by rfl)]
          refine wp_append_list _ _ 22 rfl w.heap.size _ 26 i0 _ 32 32 Tryd.underlying22 hi hz0 hz1 hz2 rfl (by decide) vP vQ _ _ _ _ rfl rfl hown hsrc (hashCells_cell _) (by unfold maxLen; omega) (by omega) hw0.size ?_
          intro v9 w511 hown9 hgrow9 hat9
          have b512 : Below w.heap.size w w511 := Below.grown hw0 hgrow9 hw0.size (fun k hk => (hown.lt k hk).1)
          have HO9 := Lib.hid (And.intro hown9 b512)
          clear hown9 hgrow9 hat9 hown hsrc hw0
          refine hK2.out _ _ b512 (fun hHeld2 => ?_)
          clear hK2 K2
          try simp only [Act.put, List.getElem_toArray, List.getElem_cons_zero, List.getElem_cons_succ, List.setIfInBounds_toArray, List.set_cons_zero, List.set_cons_succ]
          refine wpAnyH_take (i := 17) (v := ?tv30) rfl (by kernel_rfl) (by kernel_rfl) (by kernel_rfl) (fun _ _ _ h => h) (Or.inl ⟨by rfl, ?ty30⟩) (by assumption) ?tr30
          case ty30 => (intro w hSw; (try dsimp only at hSw); go_simp; (try with_reducible rfl))
          try simp only [Act.put, List.getElem_toArray, List.getElem_cons_zero, List.getElem_cons_succ, List.setIfInBounds_toArray, List.set_cons_zero, List.set_cons_succ]
          refine wpAnyH_done (by kernel_rfl) ?_ _
          go_wp2
          go_ret
          rw [HLST.out]
          refine ⟨_, rfl, ?_, own_congr HO9.out.1 ?_ ?_, HO9.out.2⟩
          · intro z hz
            rcases List.mem_append.1 hz with q | q
            · exact OP.out.2 z q
            · exact OQ.out.2 z q
          · simp
          · rw [hashCells_append]
end Go.Proofs.YtdodfeoaioolnaaDoor

