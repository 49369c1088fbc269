import Derived.Test.YtnpblpbcchminaaGreatDoorKbKeysAt
/- keys.New. Condition: the table reads as listed. -/
namespace Go.Proofs.YtnpblpbcchminaaGreatDoor
open Go.ChangeShapes Go.WideShapes Go.ChangeAt Go.RowKit
set_option linter.unusedVariables false

/-- the leaves of a tree of keys -/
def leavesK (s : List UInt8) (n : Nat) : List (List UInt8) := (List.range (2 ^ n)).map fun i => kleafB (pubB (ownB s i))
theorem leavesK_length (s : List UInt8) (n : Nat) : (leavesK s n).length = 2 ^ n := by simp [leavesK]
theorem leavesK_h32 (s : List UInt8) (n : Nat) : H32 (leavesK s n) := fun x hx => by
  obtain ⟨i, -, rfl⟩ := List.mem_map.1 hx
  exact kleafB_length _
theorem leavesK_at (s : List UInt8) (n i : Nat) (hi : i < 2 ^ n) : (leavesK s n)[i]? = some (kleafB (pubB (ownB s i))) := by simp [leavesK, hi]
/-- an own list of hashes is a list of hashes, in whatever world its row is the same -/
theorem hin_own {w : World} {base n : Nat} {v : Value} {l : List (List UInt8)} (h0 : H32 l) (hl : l.length = n) (h : w.ownsRow base 23 32 v n (hashCells l)) : ∃ A c, v = .slice A n c ∧ HIn w A n c l := by
  obtain ⟨h1, A, c, h2, h3, h4⟩ := hrd_own h0 (by rw [hl]; exact h)
  rw [hl] at h2
  refine ⟨A, c, h2, h0, hl, by omega, ?_, h4⟩
  rcases h.2 with ⟨q, _⟩ | ⟨g, cap, cur, q, _, _, _, q2, _⟩
  · rw [h2] at q; cases q; omega
  · rw [h2] at q; cases q; unfold maxLen at q2; exact q2
theorem krow_own {w : World} {b base n : Nat} {v : Value} {l : List (List UInt8)} (h0 : H32 l) (hl : l.length = n) (h : w.ownsRow base 23 32 v n (hashCells l)) (hb : b < base) : KRow w b v l := by
  obtain ⟨A, c, h1, -⟩ := hin_own h0 hl h
  refine ⟨A, n, c, h1, fun w' hw => ?_⟩
  have h9 : w'.ownsRow base 23 32 v n (hashCells l) := by
    refine ⟨h.1, ?_⟩
    rcases h.2 with q | ⟨g, cap, cur, e1, e2, e3, e4⟩
    · exact .inl q
    · exact .inr ⟨g, cap, cur, e1, e2, (hw.same g (Array.getElem?_eq_some_iff.1 e3).1 (by omega)).trans e3, e4⟩
  obtain ⟨A2, c2, h2, h3⟩ := hin_own h0 hl h9
  rw [h1] at h2
  cases h2
  exact h3
theorem rowB_over {l : List (List UInt8)} {n : Nat} (hl : l.length = 2 ^ n) : ∀ k, n < k → rowB l k = []
  | 0, h => by omega
  | k + 1, h => by
    have h1 : (rowB l k).length ≤ 1 := by
      by_cases e : k = n
      · subst e; rw [rowB_length hl k (Nat.le_refl _)]; simp
      · rw [rowB_over hl k (by omega)]; simp
    rw [rowB]
    exact List.eq_nil_of_length_eq_zero (by rw [upB_length]; omega)
theorem nil7 {j : Nat} (hj : j < 7) : (List.replicate 7 (Value.slice none 0 0))[j]? = some (.slice none 0 0) := by rw [List.getElem?_replicate, if_pos hj]

set_option maxRecDepth 100000 in
set_option maxHeartbeats 8000000 in
theorem new_ok (s : List UInt8) (n : Nat) (w : World) (hs : s.length = 32) (hn : n ≤ 6) (hK : KTab 17 w) :
    Calls Tryz.prog 13 #[hv s, .int .i64 n] w fun ev w' => ∃ b v0 ls, w.heap.size ≤ b ∧ ev = .returned (.tuple #[.pointer (some ⟨b, 0, none⟩), .nilIface]) ∧ KAt w' b s (rowB (leavesK s n)) n 0 v0 ls ∧ Below w.heap.size w w' := by
  obtain ⟨v0, ev0, Hv0, Zv0, Iv0, Ov0⟩ := row_of s hs
  obtain ⟨kv, hkv⟩ : ∃ x, keyV v0 (List.replicate 7 (.slice none 0 0)) n 0 = x := ⟨_, rfl⟩
  obtain ⟨wv, hwv⟩ : ∃ y9 : World, ((w.alloc (.cells v0 23)).alloc (.cells kv 51)) = y9 := ⟨_, rfl⟩
  have HBv : Hid (Below w.heap.size w wv) := Lib.hid (by rw [← hwv]; exact (((Below.refl _ _).alloc (by simp <;> omega) _).alloc (by simp <;> omega) _))
  have HSV : Hid (wv.heap.size = w.heap.size + 2) := Lib.hid (by rw [← hwv]; simp)
  have RA : Hid (wv.heap[w.heap.size]? = some (.cells v0 23 (0, 0))) := Lib.hid (by rw [← hwv]; exact (((Below.refl (w.alloc (.cells v0 23)).heap.size (w.alloc (.cells v0 23))).alloc (Nat.le_refl _) _).block w.heap.size (by simp <;> omega)).trans (heap_at _ _ _ (by simp <;> omega)))
  have RB : Hid (wv.heap[(w.heap.size + 1)]? = some (.cells kv 51 (0, 0))) := Lib.hid (by rw [← hwv]; exact heap_at _ _ _ (by simp <;> omega))
  have HWV := Lib.hid hwv
  obtain ⟨b, hb⟩ : ∃ x, w.heap.size + 1 = x := ⟨_, rfl⟩
  have hP : (2 : Nat) ^ n ≤ 64 := Nat.pow_le_pow_right (n := 2) (by omega) (show n ≤ 6 from hn)
  obtain ⟨i0, hi, hz0, hz1, hz2⟩ := info_parts info_hash
  have HKW := Lib.hid (fun (w' : World) (h : Below w.heap.size w w') => ktab_below hK h hK.lt)
  have HS := Lib.hid hs
  have HB := Lib.hid hb
  have EV0 := Lib.hid ev0
  have e1 : decide ((n : Int) < 0) = false := by simp
  have e2 : decide ((6 : Int) < n) = false := by simp; omega
  have e3 : ¬ ((6 : Int) < n) := by omega
  obtain ⟨LS0, hL0⟩ : ∃ x, List.replicate 7 (Value.slice none 0 0) = x := ⟨_, rfl⟩
  have HL0 : Hid (LS0.length = 7 ∧ LS0 = LS0.set 0 (.slice none 0 0) ∧ ∀ j, j < 7 → LS0[j]? = some (.slice none 0 0)) := Lib.hid ⟨by rw [← hL0]; rfl, by rw [← hL0]; rfl, fun j hj => by rw [← hL0]; exact nil7 hj⟩
  rw [hL0] at hkv
  have HKV := Lib.hid hkv
  have HL00 := Lib.hid hL0
  have RB' : Hid (wv.heap[b]? = some (.cells kv 51 (0, 0))) := Lib.hid (by rw [← hb]; exact RB.out)
  obtain ⟨P, hPP⟩ : ∃ P, 2 ^ n = P := ⟨_, rfl⟩
  have e4 : wrap64 ((2 : Int) ^ n) = (P : Int) := by
    rw [← hPP, show ((2 : Int) ^ n) = ((2 ^ n : Nat) : Int) by push_cast; rfl]
    exact IntWalk.wrap64_in _ (by omega)
  rw [hPP] at hP
  have HP := Lib.hid (And.intro hP hPP)
  rw [ev0]
  clear hK hs ev0 hwv hkv hb hL0 hP hPP
  go_enter Tryz.func13, Tryz.ntmps13
  go_upto_region 4 with (first
    | (refine wpList_load_row rfl 23 _ rfl w.heap.size rfl 23 v0 (0, 0) _ (heap_at w _ _ rfl) Tryz.underlying23 rfl Iv0.out ?_)
    | (refine wpList_build_key rfl _ _ _ rfl v0 n rfl rfl rfl Zv0.out ?_; rw [HL00.out, HKV.out]))
  rw [HWV.out, HB.out]
  go_wp2_with fail
  go_loopw [27] (fun c wr => ∃ (i : Nat) (v : Value), i ≤ P ∧ c = .int .i64 i ∧ Hid (wr.ownsRow wv.heap.size 23 32 v i (hashCells ((leavesK s n).take i))) ∧ Hid (wr.heap[b]? = some (.cells (keyV v0 (LS0.set 0 v) n 0) 51 (0, 0))) ∧ Hid (But (· = b) wv wr) ∧ Hid (v.ownBlock ≠ some b)) (fun c _ => P - (intOf c).toNat)
  case atStart => exact ⟨0, .slice none 0 0, Nat.zero_le _, rfl, Lib.hid (World.ownsRow_nil _ _ _ _), Lib.hid (RB'.out.trans (by rw [← HKV.out]; exact congrArg (fun l => some (Obj.cells (keyV v0 l n 0) 51 (0, 0))) HL0.out.2.1)), Lib.hid (But.refl _ _), Lib.hid (by simp [Value.ownBlock])⟩
  case round =>
    obtain ⟨i, v, hiP, rfl, OWN, HR, HBT, HNB⟩ := hrel
    have HBW : Hid (Below w.heap.size w wr) := Lib.hid (HBv.out.trans (HBT.out.to_below HBv.out.size (fun k hk q => by have := HB.out; omega)))
    have hsr := HBT.out.size
    have hsv := HSV.out
    have hbb := HB.out
    have HLT := Lib.hid (fun k q => (OWN.out.lt k q).1)
    by_cases hlt : i < P
    · have HPB : Hid (∀ k, k < w.heap.size → ¬ (k = b ∨ v.ownBlock = some k)) := Lib.hid (fun k hk q => by
        rcases q with q | q
        · omega
        · have := HLT.out k q; omega)
      have HPO : Hid (∀ k, k < wv.heap.size → (k = b ∨ v.ownBlock = some k) → k = b) := Lib.hid (fun k hk q => by
        rcases q with q | q
        · exact q
        · have := HLT.out k q; omega)
      have HV32 : Hid ((keyV v0 (LS0.set 0 v) n 0)[32]? = some v) := Lib.hid (by
        have := keyV_row (n := n) (x := 0) (ls := LS0.set 0 v) (j := 0) Zv0.out (by rw [List.length_set]; exact HL0.out.1) (by omega)
        rw [Nat.add_zero] at this
        rw [this, List.getElem?_set_self (by rw [HL0.out.1]; omega)])
      obtain ⟨vo, evo, Hvo, Zvo, Ivo, Ovo⟩ := row_of (ownB s i) (ownB_length _ _)
      obtain ⟨vp, evp, Hvp, Zvp, Ivp, Ovp⟩ := row_of (pubB (ownB s i)) (endB_length _)
      obtain ⟨vl, evl, Hvl, Zvl, Ivl, Ovl⟩ := row_of (kleafB (pubB (ownB s i))) (kleafB_length _)
      have HOW : Hid (∀ w', Below w.heap.size w w' → w'.heap[b]? = some (.cells (keyV v0 (LS0.set 0 v) n 0) 51 (0, 0)) → Calls Tryz.prog 44 #[.pointer (some ⟨b, 0, none⟩), .int .i64 i] w' fun ev w2 => ev = .returned (.agg vo) ∧ Below w'.heap.size w' w2) := Lib.hid (fun w' h hg => by
        have := own_any b s i w' HS.out (fun j u hj => by
          have hj' : j < 32 := by have := (List.getElem?_eq_some_iff.1 hj).1; rw [bytesV_length, HS.out] at this; exact this
          rw [Nat.zero_add, cell_of_row w' b j _ 51 (0, 0) hg, keyV_sec Zv0.out hj', ← Hv0.out, List.getElem?_toArray]
          exact hj) (Array.getElem?_eq_some_iff.1 hg).1 (by have := HP.out.1; omega) (HKW.out w' h)
        rw [evo] at this; exact this)
      have HPU : Hid (∀ w', Below w.heap.size w w' → Calls Tryz.prog 45 #[.agg vo] w' fun ev w2 => ev = .returned (.agg vp) ∧ Below w'.heap.size w' w2) := Lib.hid (fun w' h => by
        have := pub_any (ownB s i) w' (ownB_length _ _) (HKW.out w' h)
        rw [evo, evp] at this; exact this)
      have HKL : Hid (∀ w', Below w.heap.size w w' → Calls Tryz.prog 37 #[.agg vp] w' fun ev w2 => ev = .returned (.agg vl) ∧ Below w'.heap.size w' w2) := Lib.hid (fun w' h => by
        have := kleaf_any (pubB (ownB s i)) w' (endB_length _) (HKW.out w' h)
        rw [evp, evl] at this; exact this)
      have HSN : Hid (∀ (w' : World) (v9 : Value), w'.ownsRow wv.heap.size 23 32 v9 (i + 1) (hashCells ((leavesK s n).take i) ++ hashCells [kleafB (pubB (ownB s i))]) → Hid (w'.ownsRow wv.heap.size 23 32 v9 (i + 1) (hashCells ((leavesK s n).take (i + 1))))) := Lib.hid (fun w' v9 h => Lib.hid (by
        rw [List.take_add_one, leavesK_at s n i (by have := HP.out.2; omega)]
        rw [← hashCells_append] at h
        exact h))
      have HST : Hid (∀ (w' : World) (v9 : Value), w'.heap[b]? = some (.cells ((keyV v0 (LS0.set 0 v) n 0).setIfInBounds 32 v9) 51 (0, 0)) → Hid (w'.heap[b]? = some (.cells (keyV v0 (LS0.set 0 v9) n 0) 51 (0, 0)))) := Lib.hid (fun w' v9 h => Lib.hid (by
        have := keyV_set (n := n) (x := 0) (ls := LS0.set 0 v) (j := 0) Zv0.out (by rw [List.length_set]; exact HL0.out.1) (by omega) v9
        rw [Nat.add_zero] at this
        rw [this, List.set_set] at h
        exact h))
      have HNE : Hid (∀ (w' : World) (v9 : Value), w'.ownsRow wv.heap.size 23 32 v9 (i + 1) (hashCells ((leavesK s n).take i) ++ hashCells [kleafB (pubB (ownB s i))]) → Hid (v9.ownBlock ≠ some b)) := Lib.hid (fun w' v9 h => Lib.hid (fun q => by have := (h.lt b q).1; omega))
      have hbl : b < wr.heap.size := by omega
      have i0' : (0 : Int) ≤ i := by omega
      have i1 : (i : Int) < P := by omega
      have hi64 : i < 64 := by have := HP.out.1; omega
      clear evo evp evl
      go_upto_region 8 with fail
      refine wp_region_held_drew (S := But (fun k => k = b ∨ v.ownBlock = some k) wr) (by kernel_rfl) (But.refl _ _).drew (fun hHeld => ?_)
      refine tk (i := 0) (v := ?v1) rfl ?y1 ?r1
      case y1 => (intro w hSw; (try dsimp only at hSw); go_simp; (try with_reducible rfl))
      try simp only [pu]
      refine tk (i := 1) (v := ?v2) rfl ?y2 ?r2
      case y2 => (intro w hSw; (try dsimp only at hSw); go_simp; (try with_reducible rfl))
      try simp only [pu]
      refine tk (i := 2) (v := ?v3) rfl ?y3 ?r3
      case y3 => (intro w hSw; (try dsimp only at hSw); go_simp; (try with_reducible rfl))
      try simp only [pu]
      refine tk (i := 3) (v := ?v4) rfl ?y4 ?r4
      case y4 => (intro w hSw; (try dsimp only at hSw); go_simp; (try with_reducible rfl))
      try simp only [pu]
      refine tk (i := 4) (v := ?v5) rfl ?y5 ?r5
      case y5 => (intro w hSw; (try dsimp only at hSw); go_simp; (try with_reducible rfl))
      try simp only [pu]
      refine tk (i := 6) (v := ?v6) rfl ?y6 ?r6
      case y6 => (intro w hSw; (try dsimp only at hSw); go_simp; (try with_reducible rfl))
      try simp only [pu]
      refine tk (i := 7) (v := ?v7) rfl ?y7 ?r7
      case y7 => (intro w hSw; (try dsimp only at hSw); go_simp; (try with_reducible rfl))
      try simp only [pu]
      refine tk (i := 13) (v := ?v8) rfl ?y8 ?r8
      case y8 => (intro w hSw; (try dsimp only at hSw); go_simp; (try with_reducible rfl))
      try simp only [pu]
      refine tk (i := 14) (v := ?v9) rfl ?y9 ?r9
      case y9 => (intro w hSw; (try dsimp only at hSw); go_simp; (try with_reducible rfl))
      try simp only [pu]
      refine wpAnyH_ready (rs := [5, 8]) (by kernel_rfl) (by simp) ?_
      refine AllReadyH.cons (i := 5) rfl (fun K2 hK2 => ?_) ?more10
      · skip
        have z0 := (cell_of_row wr.drew b 32 _ 51 (0, 0) (show wr.drew.heap[b]? = _ from HR.out)).trans HV32.out
        go_simp
        refine hK2.out _ _ ((But.refl (fun k => k = b ∨ v.ownBlock = some k) wr).drew) (fun hHeld2 => ?_)
        clear hK2 K2
        try simp only [pu]
        refine wpAnyH_ready (rs := [8]) (by kernel_rfl) (by simp) ?_
        refine AllReadyH.cons (i := 8) rfl (fun K2 hK2 => ?_) AllReadyH.nil
        go_simp
        go_at_call 44
        refine (HOW.out wr.drew (HBW.out.trans (But.to_below ((But.refl (fun k => k = b ∨ v.ownBlock = some k) wr).drew) HBW.out.size (fun k hk q => HPB.out k hk q))) (show wr.drew.heap[b]? = _ from HR.out)).mono ?_
        rintro ev w701 ⟨rfl, bw701⟩
        try go_wp2_with fail
        obtain ⟨Kw701, fw701⟩ := st_call ((But.refl (fun k => k = b ∨ v.ownBlock = some k) wr).drew) bw701
        have Kw701 := Lib.hid Kw701
        have Tw701_0 := Lib.hid (fw701 _ _ (show wr.drew.heap[b]? = _ from HR.out))
        have Ow701 := Lib.hid (own_keep fw701 (own_drew OWN.out))
        clear bw701 fw701
        refine hK2.out _ _ Kw701.out (fun hHeld2 => ?_)
        clear hK2 K2
        try simp only [pu]
        refine wpAnyH_ready (rs := [9]) (by kernel_rfl) (by simp) ?_
        refine AllReadyH.cons (i := 9) rfl (fun K2 hK2 => ?_) AllReadyH.nil
        go_simp
        go_at_call 45
        refine (HPU.out w701 (HBW.out.trans (But.to_below Kw701.out HBW.out.size (fun k hk q => HPB.out k hk q)))).mono ?_
        rintro ev w702 ⟨rfl, bw702⟩
        try go_wp2_with fail
        obtain ⟨Kw702, fw702⟩ := st_call Kw701.out bw702
        have Kw702 := Lib.hid Kw702
        have Tw702_0 := Lib.hid (fw702 _ _ Tw701_0.out)
        have Ow702 := Lib.hid (own_keep fw702 Ow701.out)
        clear bw702 fw702
        refine hK2.out _ _ Kw702.out (fun hHeld2 => ?_)
        clear hK2 K2
        try simp only [pu]
        refine wpAnyH_ready (rs := [10]) (by kernel_rfl) (by simp) ?_
        refine AllReadyH.cons (i := 10) rfl (fun K2 hK2 => ?_) AllReadyH.nil
        go_simp
        go_at_call 37
        refine (HKL.out w702 (HBW.out.trans (But.to_below Kw702.out HBW.out.size (fun k hk q => HPB.out k hk q)))).mono ?_
        rintro ev w703 ⟨rfl, bw703⟩
        try go_wp2_with fail
        obtain ⟨Kw703, fw703⟩ := st_call Kw702.out bw703
        have Kw703 := Lib.hid Kw703
        have Tw703_0 := Lib.hid (fw703 _ _ Tw702_0.out)
        have Ow703 := Lib.hid (own_keep fw703 Ow702.out)
        clear bw703 fw703
        refine hK2.out _ _ Kw703.out (fun hHeld2 => ?_)
        clear hK2 K2
        try simp only [pu]
        refine wpAnyH_ready (rs := [11]) (by kernel_rfl) (by simp) ?_
        refine AllReadyH.cons (i := 11) rfl (fun K2 hK2 => ?_) AllReadyH.nil
        rw [if_pos (by rfl)]
        refine wp_buildSlice_row 24 23 _ vl _ 32 rfl rfl Tryz.underlying24 Tryz.sizeOf23 Tryz.zeroValue23 rfl Zvl.out (by omega) (by omega) ?_
        obtain ⟨w704, hw704⟩ : ∃ x, (w703.alloc (.cells vl 23)) = x := ⟨_, rfl⟩
        obtain ⟨g704, hg704⟩ : ∃ x, w703.heap.size = x := ⟨_, rfl⟩
        obtain ⟨Kw704, Tw704_1, qw704, fw704⟩ := st_alloc Kw703.out hw704 hg704
        rw [hw704, hg704]; clear hw704 hg704
        have Kw704 := Lib.hid Kw704
        have Tw704_1 := Lib.hid Tw704_1
        obtain ⟨Tw704_0, dw704_0⟩ := fw704 _ _ Tw703_0.out
        have Tw704_0 := Lib.hid Tw704_0
        have Ow704 := Lib.hid (own_keep (fun k x h => (fw704 k x h).1) Ow703.out)
        clear fw704
        refine hK2.out _ _ Kw704.out (fun hHeld2 => ?_)
        clear hK2 K2
        try simp only [pu]
        refine wpAnyH_ready (rs := [12]) (by kernel_rfl) (by simp) ?_
        refine AllReadyH.cons (i := 12) rfl (fun K2 hK2 => ?_) AllReadyH.nil
        rw [if_pos (by rfl)]
        refine wp_append_list _ _ 24 rfl wv.heap.size _ 23 i0 _ 32 32 Tryz.underlying24 hi hz0 hz1 hz2 rfl (by decide) v (.slice (some ⟨g704, 0, none⟩) 1 1) i 1 (hashCells ((leavesK s n).take i)) (hashCells [(kleafB (pubB (ownB s i)))]) rfl rfl Ow704.out (own_at (kleafB (pubB (ownB s i))) Tw704_1.out Hvl.out Zvl.out) (hashCells_cell _) (by unfold maxLen; omega) (by omega) (by have := (Kw704.out).size; omega) ?_
        intro v9 w705 o9 g9 a9
        obtain ⟨A9, C9, rfl, hC9⟩ := own_shape o9
        obtain ⟨Kw705, fw705⟩ := st_grow Kw704.out g9 (fun k q => .inr q)
        have Kw705 := Lib.hid Kw705
        have Ow705 := Lib.hid o9
        have Tw705_0 := Lib.hid (fw705 _ _ HNB.out Tw704_0.out)
        have HNB9 : (Value.slice A9 (i + 1) C9).ownBlock ≠ some b := by
          rcases a9 with q | q
          · rw [q]; exact HNB.out
          · rw [q]; intro e; injection e with e; have := (Kw704.out).size; omega
        clear fw705 o9 g9 a9
        refine hK2.out _ _ Kw705.out (fun hHeld2 => ?_)
        clear hK2 K2
        try simp only [pu]
        refine tk (i := 15) (v := ?v11) rfl ?y11 ?r11
        case y11 => (intro w hSw; (try dsimp only at hSw); go_simp; (try with_reducible rfl))
        try simp only [pu]
        refine wpAnyH_ready (rs := [16]) (by kernel_rfl) (by simp) ?_
        refine AllReadyH.cons (i := 16) rfl (fun K2 hK2 => ?_) AllReadyH.nil
        have c9 := (cell_of_row w705 b 32 _ 51 (0, 0) Tw705_0.out).trans HV32.out
        have f9 := frozen_of_row w705 b 32 _ 51 Tw705_0.out
        go_simp
        obtain ⟨w706, hw706⟩ : ∃ x, w705.setCell ⟨b, 32, none⟩ (Value.slice A9 (i + 1) C9) = x := ⟨_, rfl⟩
        obtain ⟨Kw706, Tw706_0, fw706⟩ := st_cell Kw705.out hw706 (fun _ => .inl rfl) Tw705_0.out
        have Kw706 := Lib.hid Kw706
        have Tw706_0 := Lib.hid Tw706_0
        have Ow706 := Lib.hid (own_keep_ne fw706 Ow705.out HNB9)
        clear fw706
        rw [hw706]
        clear hw706
        refine hK2.out _ _ Kw706.out (fun hHeld2 => ?_)
        clear hK2 K2
        try simp only [pu]
        refine wpAnyH_done (by kernel_rfl) ?_ _
        have KE := Lib.hid Kw706.out
        have TE := Lib.hid Tw706_0.out
        have OE := Lib.hid Ow706.out
        go_wp2
        go_roundw
        case rel => exact ⟨i + 1, _, by omega, by go_num, HSN.out _ _ OE.out, HST.out _ _ TE.out, Lib.hid (HBT.out.step KE.out (fun k hk q => HPO.out k hk q)), HNE.out _ _ OE.out⟩
        case measure => simp [intOf]; omega

      refine AllReadyH.cons (i := 8) rfl (fun K2 hK2 => ?_) ?more12
      · skip
        go_simp
        go_at_call 44
        refine (HOW.out wr.drew (HBW.out.trans (But.to_below ((But.refl (fun k => k = b ∨ v.ownBlock = some k) wr).drew) HBW.out.size (fun k hk q => HPB.out k hk q))) (show wr.drew.heap[b]? = _ from HR.out)).mono ?_
        rintro ev w707 ⟨rfl, bw707⟩
        try go_wp2_with fail
        obtain ⟨Kw707, fw707⟩ := st_call ((But.refl (fun k => k = b ∨ v.ownBlock = some k) wr).drew) bw707
        have Kw707 := Lib.hid Kw707
        have Tw707_0 := Lib.hid (fw707 _ _ (show wr.drew.heap[b]? = _ from HR.out))
        have Ow707 := Lib.hid (own_keep fw707 (own_drew OWN.out))
        clear bw707 fw707
        refine hK2.out _ _ Kw707.out (fun hHeld2 => ?_)
        clear hK2 K2
        try simp only [pu]
        refine wpAnyH_ready (rs := [5, 9]) (by kernel_rfl) (by simp) ?_
        refine AllReadyH.cons (i := 5) rfl (fun K2 hK2 => ?_) ?more13
        · skip
          have z0 := (cell_of_row w707 b 32 _ 51 (0, 0) Tw707_0.out).trans HV32.out
          go_simp
          refine hK2.out _ _ Kw707.out (fun hHeld2 => ?_)
          clear hK2 K2
          try simp only [pu]
          refine wpAnyH_ready (rs := [9]) (by kernel_rfl) (by simp) ?_
          refine AllReadyH.cons (i := 9) rfl (fun K2 hK2 => ?_) AllReadyH.nil
          go_simp
          go_at_call 45
          refine (HPU.out w707 (HBW.out.trans (But.to_below Kw707.out HBW.out.size (fun k hk q => HPB.out k hk q)))).mono ?_
          rintro ev w708 ⟨rfl, bw708⟩
          try go_wp2_with fail
          obtain ⟨Kw708, fw708⟩ := st_call Kw707.out bw708
          have Kw708 := Lib.hid Kw708
          have Tw708_0 := Lib.hid (fw708 _ _ Tw707_0.out)
          have Ow708 := Lib.hid (own_keep fw708 Ow707.out)
          clear bw708 fw708
          refine hK2.out _ _ Kw708.out (fun hHeld2 => ?_)
          clear hK2 K2
          try simp only [pu]
          refine wpAnyH_ready (rs := [10]) (by kernel_rfl) (by simp) ?_
          refine AllReadyH.cons (i := 10) rfl (fun K2 hK2 => ?_) AllReadyH.nil
          go_simp
          go_at_call 37
          refine (HKL.out w708 (HBW.out.trans (But.to_below Kw708.out HBW.out.size (fun k hk q => HPB.out k hk q)))).mono ?_
          rintro ev w709 ⟨rfl, bw709⟩
          try go_wp2_with fail
          obtain ⟨Kw709, fw709⟩ := st_call Kw708.out bw709
          have Kw709 := Lib.hid Kw709
          have Tw709_0 := Lib.hid (fw709 _ _ Tw708_0.out)
          have Ow709 := Lib.hid (own_keep fw709 Ow708.out)
          clear bw709 fw709
          refine hK2.out _ _ Kw709.out (fun hHeld2 => ?_)
          clear hK2 K2
          try simp only [pu]
          refine wpAnyH_ready (rs := [11]) (by kernel_rfl) (by simp) ?_
          refine AllReadyH.cons (i := 11) rfl (fun K2 hK2 => ?_) AllReadyH.nil
          rw [if_pos (by rfl)]
          refine wp_buildSlice_row 24 23 _ vl _ 32 rfl rfl Tryz.underlying24 Tryz.sizeOf23 Tryz.zeroValue23 rfl Zvl.out (by omega) (by omega) ?_
          obtain ⟨w710, hw710⟩ : ∃ x, (w709.alloc (.cells vl 23)) = x := ⟨_, rfl⟩
          obtain ⟨g710, hg710⟩ : ∃ x, w709.heap.size = x := ⟨_, rfl⟩
          obtain ⟨Kw710, Tw710_1, qw710, fw710⟩ := st_alloc Kw709.out hw710 hg710
          rw [hw710, hg710]; clear hw710 hg710
          have Kw710 := Lib.hid Kw710
          have Tw710_1 := Lib.hid Tw710_1
          obtain ⟨Tw710_0, dw710_0⟩ := fw710 _ _ Tw709_0.out
          have Tw710_0 := Lib.hid Tw710_0
          have Ow710 := Lib.hid (own_keep (fun k x h => (fw710 k x h).1) Ow709.out)
          clear fw710
          refine hK2.out _ _ Kw710.out (fun hHeld2 => ?_)
          clear hK2 K2
          try simp only [pu]
          refine wpAnyH_ready (rs := [12]) (by kernel_rfl) (by simp) ?_
          refine AllReadyH.cons (i := 12) rfl (fun K2 hK2 => ?_) AllReadyH.nil
          rw [if_pos (by rfl)]
          refine wp_append_list _ _ 24 rfl wv.heap.size _ 23 i0 _ 32 32 Tryz.underlying24 hi hz0 hz1 hz2 rfl (by decide) v (.slice (some ⟨g710, 0, none⟩) 1 1) i 1 (hashCells ((leavesK s n).take i)) (hashCells [(kleafB (pubB (ownB s i)))]) rfl rfl Ow710.out (own_at (kleafB (pubB (ownB s i))) Tw710_1.out Hvl.out Zvl.out) (hashCells_cell _) (by unfold maxLen; omega) (by omega) (by have := (Kw710.out).size; omega) ?_
          intro v9 w711 o9 g9 a9
          obtain ⟨A9, C9, rfl, hC9⟩ := own_shape o9
          obtain ⟨Kw711, fw711⟩ := st_grow Kw710.out g9 (fun k q => .inr q)
          have Kw711 := Lib.hid Kw711
          have Ow711 := Lib.hid o9
          have Tw711_0 := Lib.hid (fw711 _ _ HNB.out Tw710_0.out)
          have HNB9 : (Value.slice A9 (i + 1) C9).ownBlock ≠ some b := by
            rcases a9 with q | q
            · rw [q]; exact HNB.out
            · rw [q]; intro e; injection e with e; have := (Kw710.out).size; omega
          clear fw711 o9 g9 a9
          refine hK2.out _ _ Kw711.out (fun hHeld2 => ?_)
          clear hK2 K2
          try simp only [pu]
          refine tk (i := 15) (v := ?v14) rfl ?y14 ?r14
          case y14 => (intro w hSw; (try dsimp only at hSw); go_simp; (try with_reducible rfl))
          try simp only [pu]
          refine wpAnyH_ready (rs := [16]) (by kernel_rfl) (by simp) ?_
          refine AllReadyH.cons (i := 16) rfl (fun K2 hK2 => ?_) AllReadyH.nil
          have c9 := (cell_of_row w711 b 32 _ 51 (0, 0) Tw711_0.out).trans HV32.out
          have f9 := frozen_of_row w711 b 32 _ 51 Tw711_0.out
          go_simp
          obtain ⟨w712, hw712⟩ : ∃ x, w711.setCell ⟨b, 32, none⟩ (Value.slice A9 (i + 1) C9) = x := ⟨_, rfl⟩
          obtain ⟨Kw712, Tw712_0, fw712⟩ := st_cell Kw711.out hw712 (fun _ => .inl rfl) Tw711_0.out
          have Kw712 := Lib.hid Kw712
          have Tw712_0 := Lib.hid Tw712_0
          have Ow712 := Lib.hid (own_keep_ne fw712 Ow711.out HNB9)
          clear fw712
          rw [hw712]
          clear hw712
          refine hK2.out _ _ Kw712.out (fun hHeld2 => ?_)
          clear hK2 K2
          try simp only [pu]
          refine wpAnyH_done (by kernel_rfl) ?_ _
          have KE := Lib.hid Kw712.out
          have TE := Lib.hid Tw712_0.out
          have OE := Lib.hid Ow712.out
          go_wp2
          go_roundw
          case rel => exact ⟨i + 1, _, by omega, by go_num, HSN.out _ _ OE.out, HST.out _ _ TE.out, Lib.hid (HBT.out.step KE.out (fun k hk q => HPO.out k hk q)), HNE.out _ _ OE.out⟩
          case measure => simp [intOf]; omega
        
        refine AllReadyH.cons (i := 9) rfl (fun K2 hK2 => ?_) ?more15
        · skip
          go_simp
          go_at_call 45
          refine (HPU.out w707 (HBW.out.trans (But.to_below Kw707.out HBW.out.size (fun k hk q => HPB.out k hk q)))).mono ?_
          rintro ev w713 ⟨rfl, bw713⟩
          try go_wp2_with fail
          obtain ⟨Kw713, fw713⟩ := st_call Kw707.out bw713
          have Kw713 := Lib.hid Kw713
          have Tw713_0 := Lib.hid (fw713 _ _ Tw707_0.out)
          have Ow713 := Lib.hid (own_keep fw713 Ow707.out)
          clear bw713 fw713
          refine hK2.out _ _ Kw713.out (fun hHeld2 => ?_)
          clear hK2 K2
          try simp only [pu]
          refine wpAnyH_ready (rs := [5, 10]) (by kernel_rfl) (by simp) ?_
          refine AllReadyH.cons (i := 5) rfl (fun K2 hK2 => ?_) ?more16
          · skip
            have z0 := (cell_of_row w713 b 32 _ 51 (0, 0) Tw713_0.out).trans HV32.out
            go_simp
            refine hK2.out _ _ Kw713.out (fun hHeld2 => ?_)
            clear hK2 K2
            try simp only [pu]
            refine wpAnyH_ready (rs := [10]) (by kernel_rfl) (by simp) ?_
            refine AllReadyH.cons (i := 10) rfl (fun K2 hK2 => ?_) AllReadyH.nil
            go_simp
            go_at_call 37
            refine (HKL.out w713 (HBW.out.trans (But.to_below Kw713.out HBW.out.size (fun k hk q => HPB.out k hk q)))).mono ?_
            rintro ev w714 ⟨rfl, bw714⟩
            try go_wp2_with fail
            obtain ⟨Kw714, fw714⟩ := st_call Kw713.out bw714
            have Kw714 := Lib.hid Kw714
            have Tw714_0 := Lib.hid (fw714 _ _ Tw713_0.out)
            have Ow714 := Lib.hid (own_keep fw714 Ow713.out)
            clear bw714 fw714
            refine hK2.out _ _ Kw714.out (fun hHeld2 => ?_)
            clear hK2 K2
            try simp only [pu]
            refine wpAnyH_ready (rs := [11]) (by kernel_rfl) (by simp) ?_
            refine AllReadyH.cons (i := 11) rfl (fun K2 hK2 => ?_) AllReadyH.nil
            rw [if_pos (by rfl)]
            refine wp_buildSlice_row 24 23 _ vl _ 32 rfl rfl Tryz.underlying24 Tryz.sizeOf23 Tryz.zeroValue23 rfl Zvl.out (by omega) (by omega) ?_
            obtain ⟨w715, hw715⟩ : ∃ x, (w714.alloc (.cells vl 23)) = x := ⟨_, rfl⟩
            obtain ⟨g715, hg715⟩ : ∃ x, w714.heap.size = x := ⟨_, rfl⟩
            obtain ⟨Kw715, Tw715_1, qw715, fw715⟩ := st_alloc Kw714.out hw715 hg715
            rw [hw715, hg715]; clear hw715 hg715
            have Kw715 := Lib.hid Kw715
            have Tw715_1 := Lib.hid Tw715_1
            obtain ⟨Tw715_0, dw715_0⟩ := fw715 _ _ Tw714_0.out
            have Tw715_0 := Lib.hid Tw715_0
            have Ow715 := Lib.hid (own_keep (fun k x h => (fw715 k x h).1) Ow714.out)
            clear fw715
            refine hK2.out _ _ Kw715.out (fun hHeld2 => ?_)
            clear hK2 K2
            try simp only [pu]
            refine wpAnyH_ready (rs := [12]) (by kernel_rfl) (by simp) ?_
            refine AllReadyH.cons (i := 12) rfl (fun K2 hK2 => ?_) AllReadyH.nil
            rw [if_pos (by rfl)]
            refine wp_append_list _ _ 24 rfl wv.heap.size _ 23 i0 _ 32 32 Tryz.underlying24 hi hz0 hz1 hz2 rfl (by decide) v (.slice (some ⟨g715, 0, none⟩) 1 1) i 1 (hashCells ((leavesK s n).take i)) (hashCells [(kleafB (pubB (ownB s i)))]) rfl rfl Ow715.out (own_at (kleafB (pubB (ownB s i))) Tw715_1.out Hvl.out Zvl.out) (hashCells_cell _) (by unfold maxLen; omega) (by omega) (by have := (Kw715.out).size; omega) ?_
            intro v9 w716 o9 g9 a9
            obtain ⟨A9, C9, rfl, hC9⟩ := own_shape o9
            obtain ⟨Kw716, fw716⟩ := st_grow Kw715.out g9 (fun k q => .inr q)
            have Kw716 := Lib.hid Kw716
            have Ow716 := Lib.hid o9
            have Tw716_0 := Lib.hid (fw716 _ _ HNB.out Tw715_0.out)
            have HNB9 : (Value.slice A9 (i + 1) C9).ownBlock ≠ some b := by
              rcases a9 with q | q
              · rw [q]; exact HNB.out
              · rw [q]; intro e; injection e with e; have := (Kw715.out).size; omega
            clear fw716 o9 g9 a9
            refine hK2.out _ _ Kw716.out (fun hHeld2 => ?_)
            clear hK2 K2
            try simp only [pu]
            refine tk (i := 15) (v := ?v17) rfl ?y17 ?r17
            case y17 => (intro w hSw; (try dsimp only at hSw); go_simp; (try with_reducible rfl))
            try simp only [pu]
            refine wpAnyH_ready (rs := [16]) (by kernel_rfl) (by simp) ?_
            refine AllReadyH.cons (i := 16) rfl (fun K2 hK2 => ?_) AllReadyH.nil
            have c9 := (cell_of_row w716 b 32 _ 51 (0, 0) Tw716_0.out).trans HV32.out
            have f9 := frozen_of_row w716 b 32 _ 51 Tw716_0.out
            go_simp
            obtain ⟨w717, hw717⟩ : ∃ x, w716.setCell ⟨b, 32, none⟩ (Value.slice A9 (i + 1) C9) = x := ⟨_, rfl⟩
            obtain ⟨Kw717, Tw717_0, fw717⟩ := st_cell Kw716.out hw717 (fun _ => .inl rfl) Tw716_0.out
            have Kw717 := Lib.hid Kw717
            have Tw717_0 := Lib.hid Tw717_0
            have Ow717 := Lib.hid (own_keep_ne fw717 Ow716.out HNB9)
            clear fw717
            rw [hw717]
            clear hw717
            refine hK2.out _ _ Kw717.out (fun hHeld2 => ?_)
            clear hK2 K2
            try simp only [pu]
            refine wpAnyH_done (by kernel_rfl) ?_ _
            have KE := Lib.hid Kw717.out
            have TE := Lib.hid Tw717_0.out
            have OE := Lib.hid Ow717.out
            go_wp2
            go_roundw
            case rel => exact ⟨i + 1, _, by omega, by go_num, HSN.out _ _ OE.out, HST.out _ _ TE.out, Lib.hid (HBT.out.step KE.out (fun k hk q => HPO.out k hk q)), HNE.out _ _ OE.out⟩
            case measure => simp [intOf]; omega
          
          refine AllReadyH.cons (i := 10) rfl (fun K2 hK2 => ?_) ?more18
          · skip
            go_simp
            go_at_call 37
            refine (HKL.out w713 (HBW.out.trans (But.to_below Kw713.out HBW.out.size (fun k hk q => HPB.out k hk q)))).mono ?_
            rintro ev w718 ⟨rfl, bw718⟩
            try go_wp2_with fail
            obtain ⟨Kw718, fw718⟩ := st_call Kw713.out bw718
            have Kw718 := Lib.hid Kw718
            have Tw718_0 := Lib.hid (fw718 _ _ Tw713_0.out)
            have Ow718 := Lib.hid (own_keep fw718 Ow713.out)
            clear bw718 fw718
            refine hK2.out _ _ Kw718.out (fun hHeld2 => ?_)
            clear hK2 K2
            try simp only [pu]
            refine wpAnyH_ready (rs := [5, 11]) (by kernel_rfl) (by simp) ?_
            refine AllReadyH.cons (i := 5) rfl (fun K2 hK2 => ?_) ?more19
            · skip
              have z0 := (cell_of_row w718 b 32 _ 51 (0, 0) Tw718_0.out).trans HV32.out
              go_simp
              refine hK2.out _ _ Kw718.out (fun hHeld2 => ?_)
              clear hK2 K2
              try simp only [pu]
              refine wpAnyH_ready (rs := [11]) (by kernel_rfl) (by simp) ?_
              refine AllReadyH.cons (i := 11) rfl (fun K2 hK2 => ?_) AllReadyH.nil
              rw [if_pos (by rfl)]
              refine wp_buildSlice_row 24 23 _ vl _ 32 rfl rfl Tryz.underlying24 Tryz.sizeOf23 Tryz.zeroValue23 rfl Zvl.out (by omega) (by omega) ?_
              obtain ⟨w719, hw719⟩ : ∃ x, (w718.alloc (.cells vl 23)) = x := ⟨_, rfl⟩
              obtain ⟨g719, hg719⟩ : ∃ x, w718.heap.size = x := ⟨_, rfl⟩
              obtain ⟨Kw719, Tw719_1, qw719, fw719⟩ := st_alloc Kw718.out hw719 hg719
              rw [hw719, hg719]; clear hw719 hg719
              have Kw719 := Lib.hid Kw719
              have Tw719_1 := Lib.hid Tw719_1
              obtain ⟨Tw719_0, dw719_0⟩ := fw719 _ _ Tw718_0.out
              have Tw719_0 := Lib.hid Tw719_0
              have Ow719 := Lib.hid (own_keep (fun k x h => (fw719 k x h).1) Ow718.out)
              clear fw719
              refine hK2.out _ _ Kw719.out (fun hHeld2 => ?_)
              clear hK2 K2
              try simp only [pu]
              refine wpAnyH_ready (rs := [12]) (by kernel_rfl) (by simp) ?_
              refine AllReadyH.cons (i := 12) rfl (fun K2 hK2 => ?_) AllReadyH.nil
              rw [if_pos (by rfl)]
              refine wp_append_list _ _ 24 rfl wv.heap.size _ 23 i0 _ 32 32 Tryz.underlying24 hi hz0 hz1 hz2 rfl (by decide) v (.slice (some ⟨g719, 0, none⟩) 1 1) i 1 (hashCells ((leavesK s n).take i)) (hashCells [(kleafB (pubB (ownB s i)))]) rfl rfl Ow719.out (own_at (kleafB (pubB (ownB s i))) Tw719_1.out Hvl.out Zvl.out) (hashCells_cell _) (by unfold maxLen; omega) (by omega) (by have := (Kw719.out).size; omega) ?_
              intro v9 w720 o9 g9 a9
              obtain ⟨A9, C9, rfl, hC9⟩ := own_shape o9
              obtain ⟨Kw720, fw720⟩ := st_grow Kw719.out g9 (fun k q => .inr q)
              have Kw720 := Lib.hid Kw720
              have Ow720 := Lib.hid o9
              have Tw720_0 := Lib.hid (fw720 _ _ HNB.out Tw719_0.out)
              have HNB9 : (Value.slice A9 (i + 1) C9).ownBlock ≠ some b := by
                rcases a9 with q | q
                · rw [q]; exact HNB.out
                · rw [q]; intro e; injection e with e; have := (Kw719.out).size; omega
              clear fw720 o9 g9 a9
              refine hK2.out _ _ Kw720.out (fun hHeld2 => ?_)
              clear hK2 K2
              try simp only [pu]
              refine tk (i := 15) (v := ?v20) rfl ?y20 ?r20
              case y20 => (intro w hSw; (try dsimp only at hSw); go_simp; (try with_reducible rfl))
              try simp only [pu]
              refine wpAnyH_ready (rs := [16]) (by kernel_rfl) (by simp) ?_
              refine AllReadyH.cons (i := 16) rfl (fun K2 hK2 => ?_) AllReadyH.nil
              have c9 := (cell_of_row w720 b 32 _ 51 (0, 0) Tw720_0.out).trans HV32.out
              have f9 := frozen_of_row w720 b 32 _ 51 Tw720_0.out
              go_simp
              obtain ⟨w721, hw721⟩ : ∃ x, w720.setCell ⟨b, 32, none⟩ (Value.slice A9 (i + 1) C9) = x := ⟨_, rfl⟩
              obtain ⟨Kw721, Tw721_0, fw721⟩ := st_cell Kw720.out hw721 (fun _ => .inl rfl) Tw720_0.out
              have Kw721 := Lib.hid Kw721
              have Tw721_0 := Lib.hid Tw721_0
              have Ow721 := Lib.hid (own_keep_ne fw721 Ow720.out HNB9)
              clear fw721
              rw [hw721]
              clear hw721
              refine hK2.out _ _ Kw721.out (fun hHeld2 => ?_)
              clear hK2 K2
              try simp only [pu]
              refine wpAnyH_done (by kernel_rfl) ?_ _
              have KE := Lib.hid Kw721.out
              have TE := Lib.hid Tw721_0.out
              have OE := Lib.hid Ow721.out
              go_wp2
              go_roundw
              case rel => exact ⟨i + 1, _, by omega, by go_num, HSN.out _ _ OE.out, HST.out _ _ TE.out, Lib.hid (HBT.out.step KE.out (fun k hk q => HPO.out k hk q)), HNE.out _ _ OE.out⟩
              case measure => simp [intOf]; omega
            
            refine AllReadyH.cons (i := 11) rfl (fun K2 hK2 => ?_) ?more21
            · skip
              rw [if_pos (by rfl)]
              refine wp_buildSlice_row 24 23 _ vl _ 32 rfl rfl Tryz.underlying24 Tryz.sizeOf23 Tryz.zeroValue23 rfl Zvl.out (by omega) (by omega) ?_
              obtain ⟨w722, hw722⟩ : ∃ x, (w718.alloc (.cells vl 23)) = x := ⟨_, rfl⟩
              obtain ⟨g722, hg722⟩ : ∃ x, w718.heap.size = x := ⟨_, rfl⟩
              obtain ⟨Kw722, Tw722_1, qw722, fw722⟩ := st_alloc Kw718.out hw722 hg722
              rw [hw722, hg722]; clear hw722 hg722
              have Kw722 := Lib.hid Kw722
              have Tw722_1 := Lib.hid Tw722_1
              obtain ⟨Tw722_0, dw722_0⟩ := fw722 _ _ Tw718_0.out
              have Tw722_0 := Lib.hid Tw722_0
              have Ow722 := Lib.hid (own_keep (fun k x h => (fw722 k x h).1) Ow718.out)
              clear fw722
              refine hK2.out _ _ Kw722.out (fun hHeld2 => ?_)
              clear hK2 K2
              try simp only [pu]
              refine wpAnyH_ready (rs := [5]) (by kernel_rfl) (by simp) ?_
              refine AllReadyH.cons (i := 5) rfl (fun K2 hK2 => ?_) AllReadyH.nil
              have z0 := (cell_of_row w722 b 32 _ 51 (0, 0) Tw722_0.out).trans HV32.out
              go_simp
              refine hK2.out _ _ Kw722.out (fun hHeld2 => ?_)
              clear hK2 K2
              try simp only [pu]
              refine wpAnyH_ready (rs := [12]) (by kernel_rfl) (by simp) ?_
              refine AllReadyH.cons (i := 12) rfl (fun K2 hK2 => ?_) AllReadyH.nil
              rw [if_pos (by rfl)]
              refine wp_append_list _ _ 24 rfl wv.heap.size _ 23 i0 _ 32 32 Tryz.underlying24 hi hz0 hz1 hz2 rfl (by decide) v (.slice (some ⟨g722, 0, none⟩) 1 1) i 1 (hashCells ((leavesK s n).take i)) (hashCells [(kleafB (pubB (ownB s i)))]) rfl rfl Ow722.out (own_at (kleafB (pubB (ownB s i))) Tw722_1.out Hvl.out Zvl.out) (hashCells_cell _) (by unfold maxLen; omega) (by omega) (by have := (Kw722.out).size; omega) ?_
              intro v9 w723 o9 g9 a9
              obtain ⟨A9, C9, rfl, hC9⟩ := own_shape o9
              obtain ⟨Kw723, fw723⟩ := st_grow Kw722.out g9 (fun k q => .inr q)
              have Kw723 := Lib.hid Kw723
              have Ow723 := Lib.hid o9
              have Tw723_0 := Lib.hid (fw723 _ _ HNB.out Tw722_0.out)
              have HNB9 : (Value.slice A9 (i + 1) C9).ownBlock ≠ some b := by
                rcases a9 with q | q
                · rw [q]; exact HNB.out
                · rw [q]; intro e; injection e with e; have := (Kw722.out).size; omega
              clear fw723 o9 g9 a9
              refine hK2.out _ _ Kw723.out (fun hHeld2 => ?_)
              clear hK2 K2
              try simp only [pu]
              refine tk (i := 15) (v := ?v22) rfl ?y22 ?r22
              case y22 => (intro w hSw; (try dsimp only at hSw); go_simp; (try with_reducible rfl))
              try simp only [pu]
              refine wpAnyH_ready (rs := [16]) (by kernel_rfl) (by simp) ?_
              refine AllReadyH.cons (i := 16) rfl (fun K2 hK2 => ?_) AllReadyH.nil
              have c9 := (cell_of_row w723 b 32 _ 51 (0, 0) Tw723_0.out).trans HV32.out
              have f9 := frozen_of_row w723 b 32 _ 51 Tw723_0.out
              go_simp
              obtain ⟨w724, hw724⟩ : ∃ x, w723.setCell ⟨b, 32, none⟩ (Value.slice A9 (i + 1) C9) = x := ⟨_, rfl⟩
              obtain ⟨Kw724, Tw724_0, fw724⟩ := st_cell Kw723.out hw724 (fun _ => .inl rfl) Tw723_0.out
              have Kw724 := Lib.hid Kw724
              have Tw724_0 := Lib.hid Tw724_0
              have Ow724 := Lib.hid (own_keep_ne fw724 Ow723.out HNB9)
              clear fw724
              rw [hw724]
              clear hw724
              refine hK2.out _ _ Kw724.out (fun hHeld2 => ?_)
              clear hK2 K2
              try simp only [pu]
              refine wpAnyH_done (by kernel_rfl) ?_ _
              have KE := Lib.hid Kw724.out
              have TE := Lib.hid Tw724_0.out
              have OE := Lib.hid Ow724.out
              go_wp2
              go_roundw
              case rel => exact ⟨i + 1, _, by omega, by go_num, HSN.out _ _ OE.out, HST.out _ _ TE.out, Lib.hid (HBT.out.step KE.out (fun k hk q => HPO.out k hk q)), HNE.out _ _ OE.out⟩
              case measure => simp [intOf]; omega
            
            exact AllReadyH.nil
          
          exact AllReadyH.nil
        
        exact AllReadyH.nil

      exact AllReadyH.nil
    · obtain rfl : i = P := by omega
      have HR0 : Hid (KRow wr b v (leavesK s n)) := Lib.hid (krow_own (n := i) (leavesK_h32 s n) (by rw [leavesK_length]; exact HP.out.2) (by have := OWN.out; rwa [List.take_of_length_le (Nat.le_of_eq (by rw [leavesK_length]; exact HP.out.2))] at this) (by have := HSV.out; have := HB.out; omega))
      have HRW0 : Hid (∀ k, k < 7 → ∃ u, (LS0.set 0 v)[k]? = some u ∧ (k ≤ 0 → KRow wr b u (rowB (leavesK s n) k)) ∧ (0 < k → u = .slice none 0 0)) := Lib.hid (fun k hk => by
        by_cases e : k = 0
        · subst e; exact ⟨v, by rw [List.getElem?_set_self (by rw [HL0.out.1]; omega)], fun _ => HR0.out, fun q => by omega⟩
        · exact ⟨.slice none 0 0, by rw [List.getElem?_set_ne (by omega)]; exact HL0.out.2.2 k hk, fun q => by omega, fun _ => rfl⟩)
      have HR := Lib.hid HR.out
      have HBT := Lib.hid HBT.out
      have HLS1 : Hid ((LS0.set 0 v).length = 7) := Lib.hid (by rw [List.length_set]; exact HL0.out.1)
      obtain ⟨w1, rfl⟩ : ∃ x, x = wr := ⟨_, rfl⟩
      clear hlt hiP
      go_wp2_with fail
      go_loopw [48] (fun c wr => ∃ (j : Nat) (ls : List Value), j ≤ n ∧ c = .int .i64 j ∧ Hid (ls.length = 7) ∧ Hid (wr.heap[b]? = some (.cells (keyV v0 ls n 0) 51 (0, 0))) ∧ Hid (∀ k, k < 7 → ∃ u, ls[k]? = some u ∧ (k ≤ j → KRow wr b u (rowB (leavesK s n) k)) ∧ (j < k → u = .slice none 0 0)) ∧ Hid (But (· = b) wv wr)) (fun c _ => n - (intOf c).toNat)
      case atStart => exact ⟨0, _, Nat.zero_le _, rfl, HLS1, HR, HRW0, HBT⟩
      case round =>
        obtain ⟨j, ls, hj, rfl, HLS, HR, HRW, HBT⟩ := hrel
        have HBW : Hid (Below w.heap.size w wr) := Lib.hid (HBv.out.trans (HBT.out.to_below HBv.out.size (fun k hk q => by have := HB.out; omega)))
        have hsr := HBT.out.size
        have hn6 := hn
        have hbb := HB.out
        have hbv : b < wv.heap.size := by have := HSV.out; omega
        by_cases hlt : j < n
        · have hlj := rowB_length (leavesK_length s n) j (by omega)
          obtain ⟨u, hu1, hu2, -⟩ := HRW.out j (by omega)
          obtain ⟨A, m, c, rfl, hin⟩ := hu2 (Nat.le_refl _)
          obtain ⟨M, hM⟩ : ∃ M, (rowB (leavesK s n) j).length = 2 * M := ⟨2 ^ (n - (j + 1)), by rw [hlj, show n - j = n - (j + 1) + 1 by omega, Nat.pow_succ]; omega⟩
          obtain rfl : m = 2 * M := by rw [← hM]; exact ((hin wr (But.refl _ _)).2.1).symm
          have hM9 : M ≤ 64 := by
            have h1 : (2 : Nat) ^ (n - j) ≤ 2 ^ 6 := Nat.pow_le_pow_right (by omega) (by omega)
            rw [← hlj, hM] at h1; omega
          have HUL : Hid ((upB (rowB (leavesK s n) j)).length = M) := Lib.hid (by rw [upB_length, hM]; omega)
          have HHIN := Lib.hid hin
          have HMM := Lib.hid hM
          have c1 : wr.cell? ⟨b, 32 + j, none⟩ = some (.slice A (2 * M) c) := by rw [cell_of_row wr b (32 + j) _ 51 (0, 0) HR.out, keyV_row Zv0.out HLS.out (by omega)]; exact hu1
          obtain ⟨wo, rfl⟩ : ∃ x, x = wr := ⟨_, rfl⟩
          have i0j : (0 : Int) ≤ j := by omega
          have i1j : (j : Int) < 7 := by omega
          have i2j : (j : Int) < n := by omega
          have HR1 : Hid (wo.heap[b]? = some (.cells (keyV v0 (ls.set (j + 1) (.slice none 0 0)) n 0) 51 (0, 0))) := Lib.hid (by
            obtain ⟨u2, h1, -, h3⟩ := HRW.out (j + 1) (by omega)
            rw [h3 (by omega)] at h1
            have : ls.set (j + 1) (.slice none 0 0) = ls := by
              refine List.ext_getElem? fun q => ?_
              by_cases e : q = j + 1
              · subst e; rw [List.getElem?_set_self (by rw [HLS.out]; omega), h1]
              · rw [List.getElem?_set_ne (by omega)]
            rw [this]; exact HR.out)
          clear hu1 hu2 hin hlj hM
          go_upto_region 15 with fail
          clear c1
          go_wp2_with fail
          go_loopw [60] (fun c wr => ∃ (i : Nat) (v : Value), i ≤ M ∧ c = .int .i64 i ∧ Hid (wr.ownsRow wo.heap.size 23 32 v i (hashCells ((upB (rowB (leavesK s n) j)).take i))) ∧ Hid (wr.heap[b]? = some (.cells (keyV v0 (ls.set (j + 1) v) n 0) 51 (0, 0))) ∧ Hid (But (· = b) wo wr) ∧ Hid (v.ownBlock ≠ some b)) (fun c _ => M - (intOf c).toNat)
          case atStart => exact ⟨0, .slice none 0 0, Nat.zero_le _, rfl, Lib.hid (World.ownsRow_nil _ _ _ _), HR1, Lib.hid (But.refl _ _), Lib.hid (by simp [Value.ownBlock])⟩
          case round =>
            obtain ⟨i, v, hiP, rfl, OWN, HRi, HBi, HNB⟩ := hrel
            have HBWi : Hid (Below w.heap.size w wr) := Lib.hid (HBW.out.trans (HBi.out.to_below HBW.out.size (fun k hk q => by have := HB.out; omega)))
            have hsi := HBi.out.size
            have HLT := Lib.hid (fun k q => (OWN.out.lt k q).1)
            have hnb2 := HNB.out
            by_cases hlt2 : i < M
            · have HPB : Hid (∀ k, k < w.heap.size → ¬ (k = b ∨ v.ownBlock = some k)) := Lib.hid (fun k hk q => by
                rcases q with q | q
                · omega
                · have := HLT.out k q; omega)
              have HPO : Hid (∀ k, k < wo.heap.size → (k = b ∨ v.ownBlock = some k) → k = b) := Lib.hid (fun k hk q => by
                rcases q with q | q
                · exact q
                · have := HLT.out k q; omega)
              have HVJ : Hid ((keyV v0 (ls.set (j + 1) v) n 0)[32 + (j + 1)]? = some v) := Lib.hid (by
                rw [keyV_row Zv0.out (by rw [List.length_set]; exact HLS.out) (by omega), List.getElem?_set_self (by rw [HLS.out]; omega)])
              obtain ⟨x0, hx0⟩ : ∃ x, (rowB (leavesK s n) j)[2 * i]? = some x := ⟨_, List.getElem?_eq_getElem (by rw [HMM.out]; omega)⟩
              obtain ⟨x1, hx1⟩ : ∃ x, (rowB (leavesK s n) j)[2 * i + 1]? = some x := ⟨_, List.getElem?_eq_getElem (by rw [HMM.out]; omega)⟩
              have HUP : Hid ((upB (rowB (leavesK s n) j))[i]? = some (nodeH x0 x1)) := Lib.hid (by
                rw [upB_get _ _ (by rw [HMM.out]; omega), List.getD_eq_getElem?_getD, List.getD_eq_getElem?_getD, hx0, hx1]; rfl)
              obtain ⟨lv0, hlv0⟩ : ∃ q, bytesV x0 = q := ⟨_, rfl⟩
              obtain ⟨lv1, hlv1⟩ : ∃ q, bytesV x1 = q := ⟨_, rfl⟩
              obtain ⟨g, o, rfl, -, -, hl0⟩ := (HHIN.out wr (but_le HBi.out)).row hx0
              have KP0 : Hid (∀ w', But (fun k => k = b ∨ v.ownBlock = some k) wr w' → w'.rangeAt g (o + 2 * i * 32) lv0) := Lib.hid (fun w' h => by
                obtain ⟨g2, o2, e, -, r, -⟩ := (HHIN.out w' (but_le (HBi.out.step h (fun k hk q => HPO.out k hk q)))).row hx0
                cases e; rw [← hlv0]; exact r)
              have KP1 : Hid (∀ w', But (fun k => k = b ∨ v.ownBlock = some k) wr w' → w'.rangeAt g (o + (2 * i + 1) * 32) lv1) := Lib.hid (fun w' h => by
                obtain ⟨g2, o2, e, -, r, -⟩ := (HHIN.out w' (but_le (HBi.out.step h (fun k hk q => HPO.out k hk q)))).row hx1
                cases e; rw [← hlv1]; exact r)
              have hl1 : x1.length = 32 := (HHIN.out wr (but_le HBi.out)).1 _ (List.mem_of_getElem? hx1)
              have Il0 : Hid ((Tryz.prog.info? 23).map (·.size) = some lv0.length) := Lib.hid (by rw [← hlv0, bytesV_length, hl0]; kernel_rfl)
              have Il1 : Hid ((Tryz.prog.info? 23).map (·.size) = some lv1.length) := Lib.hid (by rw [← hlv1, bytesV_length, hl1]; kernel_rfl)
              obtain ⟨vl, evl, Hvl, Zvl, Ivl, Ovl⟩ := row_of (nodeH x0 x1) (nodeH_length _ _)
              have HND : Hid (∀ w', Below w.heap.size w w' → Calls Tryz.prog 46 #[.agg lv0.toArray, .agg lv1.toArray] w' fun ev w2 => ev = .returned (.agg vl) ∧ Below w'.heap.size w' w2) := Lib.hid (fun w' h => by
                have := hnode_any x0 x1 w' hl0 hl1 (HKW.out w' h)
                rw [evl, show hv x0 = .agg lv0.toArray by rw [← hlv0]; rfl, show hv x1 = .agg lv1.toArray by rw [← hlv1]; rfl] at this; exact this)
              have HSN : Hid (∀ (w' : World) (v9 : Value), w'.ownsRow wo.heap.size 23 32 v9 (i + 1) (hashCells ((upB (rowB (leavesK s n) j)).take i) ++ hashCells [nodeH x0 x1]) → Hid (w'.ownsRow wo.heap.size 23 32 v9 (i + 1) (hashCells ((upB (rowB (leavesK s n) j)).take (i + 1))))) := Lib.hid (fun w' v9 h => Lib.hid (by
                rw [List.take_add_one, HUP.out]
                rw [← hashCells_append] at h
                exact h))
              have HST : Hid (∀ (w' : World) (v9 : Value), w'.heap[b]? = some (.cells ((keyV v0 (ls.set (j + 1) v) n 0).setIfInBounds (32 + (j + 1)) v9) 51 (0, 0)) → Hid (w'.heap[b]? = some (.cells (keyV v0 (ls.set (j + 1) v9) n 0) 51 (0, 0)))) := Lib.hid (fun w' v9 h => Lib.hid (by
                rw [keyV_set Zv0.out (by rw [List.length_set]; exact HLS.out) (by omega) v9, List.set_set] at h
                exact h))
              have HNE : Hid (∀ (w' : World) (v9 : Value), w'.ownsRow wo.heap.size 23 32 v9 (i + 1) (hashCells ((upB (rowB (leavesK s n) j)).take i) ++ hashCells [nodeH x0 x1]) → Hid (v9.ownBlock ≠ some b)) := Lib.hid (fun w' v9 h => Lib.hid (fun q => by have := (h.lt b q).1; omega))
              have hbl : b < wr.heap.size := by omega
              have k0 : (0 : Int) ≤ i := by omega
              have k1 : (i : Int) < M := by omega
              have k2 : (0 : Int) ≤ 2 * (i : Int) := by omega
              have k3 : 2 * (i : Int) < 2 * (M : Int) := by omega
              have k4 : (0 : Int) ≤ 2 * (i : Int) + 1 := by omega
              have k5 : 2 * (i : Int) + 1 < 2 * (M : Int) := by omega
              have k6 : (2 * (i : Int)).toNat = 2 * i := by omega
              have k7 : (2 * (i : Int) + 1).toNat = 2 * i + 1 := by omega
              have k8 : (0 : Int) ≤ (j : Int) + 1 := by omega
              have k9 : (j : Int) + 1 < 7 := by omega
              have k10 : ((j : Int) + 1).toNat = j + 1 := by omega
              have k11 : IntKind.i64.wrap ((j : Int) + 1) = (j : Int) + 1 := IntWalk.i64_in _ (by omega)
              have k12 : IntKind.i64.wrap (2 * (i : Int)) = 2 * (i : Int) := IntWalk.i64_in _ (by omega)
              have k13 : IntKind.i64.wrap (2 * (i : Int) + 1) = 2 * (i : Int) + 1 := IntWalk.i64_in _ (by omega)
              clear evl hlv0 hlv1 hx0 hx1
              go_upto_region 17 with fail
              refine wp_region_held_drew (S := But (fun k => k = b ∨ v.ownBlock = some k) wr) (by kernel_rfl) (But.refl _ _).drew (fun hHeld => ?_)
              refine tk (i := 0) (v := ?v23) rfl ?y23 ?r23
              case y23 => (intro w hSw; (try dsimp only at hSw); go_simp; (try with_reducible rfl))
              try simp only [pu]
              refine tk (i := 1) (v := ?v24) rfl ?y24 ?r24
              case y24 => (intro w hSw; (try dsimp only at hSw); go_simp; (try with_reducible rfl))
              try simp only [pu]
              refine tk (i := 2) (v := ?v25) rfl ?y25 ?r25
              case y25 => (intro w hSw; (try dsimp only at hSw); go_simp; (try with_reducible rfl))
              try simp only [pu]
              refine tk (i := 3) (v := ?v26) rfl ?y26 ?r26
              case y26 => (intro w hSw; (try dsimp only at hSw); go_simp; (try with_reducible rfl))
              try simp only [pu]
              refine tk (i := 4) (v := ?v27) rfl ?y27 ?r27
              case y27 => (intro w hSw; (try dsimp only at hSw); go_simp; (try with_reducible rfl))
              try simp only [pu]
              refine tk (i := 5) (v := ?v28) rfl ?y28 ?r28
              case y28 => (intro w hSw; (try dsimp only at hSw); go_simp; (try with_reducible rfl))
              try simp only [pu]
              refine tk (i := 6) (v := ?v29) rfl ?y29 ?r29
              case y29 => (intro w hSw; (try dsimp only at hSw); go_simp; (try with_reducible rfl))
              try simp only [pu]
              refine tk (i := 7) (v := ?v30) rfl ?y30 ?r30
              case y30 => (intro w hSw; (try dsimp only at hSw); go_simp; (try with_reducible rfl))
              try simp only [pu]
              refine tk (i := 8) (v := ?v31) rfl ?y31 ?r31
              case y31 => (intro w hSw; (try dsimp only at hSw); go_simp; (try with_reducible rfl))
              try simp only [pu]
              refine tk (i := 10) (v := ?v32) rfl ?y32 ?r32
              case y32 => (intro w hSw; (try dsimp only at hSw); go_simp; (try with_reducible rfl))
              try simp only [pu]
              refine tk (i := 11) (v := ?v33) rfl ?y33 ?r33
              case y33 => (intro w hSw; (try dsimp only at hSw); go_simp; (try with_reducible rfl))
              try simp only [pu]
              refine tk (i := 12) (v := ?v34) rfl ?y34 ?r34
              case y34 => (intro w hSw; (try dsimp only at hSw); go_simp; (try with_reducible rfl))
              try simp only [pu]
              refine tk (i := 13) (v := ?v35) rfl ?y35 ?r35
              case y35 => (intro w hSw; (try dsimp only at hSw); go_simp; (try with_reducible rfl))
              try simp only [pu]
              refine tw (i := 14) rfl (yieldsIf_load_mid (by rfl) 23 _ (by rfl) g (o + 2 * i * 32) (by rfl) lv0 _ (fun w h => KP0.out w h) Tryz.underlying23 (by rfl) Il0.out) ?_
              try simp only [pu]
              refine tk (i := 15) (v := ?v37) rfl ?y37 ?r37
              case y37 => (intro w hSw; (try dsimp only at hSw); go_simp; (try with_reducible rfl))
              try simp only [pu]
              refine tk (i := 16) (v := ?v38) rfl ?y38 ?r38
              case y38 => (intro w hSw; (try dsimp only at hSw); go_simp; (try with_reducible rfl))
              try simp only [pu]
              refine tk (i := 17) (v := ?v39) rfl ?y39 ?r39
              case y39 => (intro w hSw; (try dsimp only at hSw); go_simp; (try with_reducible rfl))
              try simp only [pu]
              refine tk (i := 18) (v := ?v40) rfl ?y40 ?r40
              case y40 => (intro w hSw; (try dsimp only at hSw); go_simp; (try with_reducible rfl))
              try simp only [pu]
              refine tk (i := 19) (v := ?v41) rfl ?y41 ?r41
              case y41 => (intro w hSw; (try dsimp only at hSw); go_simp; (try with_reducible rfl))
              try simp only [pu]
              refine tw (i := 20) rfl (yieldsIf_load_mid (by rfl) 23 _ (by rfl) g (o + (2 * i + 1) * 32) (by rfl) lv1 _ (fun w h => KP1.out w h) Tryz.underlying23 (by rfl) Il1.out) ?_
              try simp only [pu]
              refine tk (i := 24) (v := ?v43) rfl ?y43 ?r43
              case y43 => (intro w hSw; (try dsimp only at hSw); go_simp; (try with_reducible rfl))
              try simp only [pu]
              refine tk (i := 25) (v := ?v44) rfl ?y44 ?r44
              case y44 => (intro w hSw; (try dsimp only at hSw); go_simp; (try with_reducible rfl))
              try simp only [pu]
              refine wpAnyH_ready (rs := [9, 21]) (by kernel_rfl) (by simp) ?_
              refine AllReadyH.cons (i := 9) rfl (fun K2 hK2 => ?_) ?more45
              · skip
                have z0 := (cell_of_row wr.drew b (32 + (j + 1)) _ 51 (0, 0) (show wr.drew.heap[b]? = _ from HRi.out)).trans HVJ.out
                go_simp
                refine hK2.out _ _ ((But.refl (fun k => k = b ∨ v.ownBlock = some k) wr).drew) (fun hHeld2 => ?_)
                clear hK2 K2
                try simp only [pu]
                refine wpAnyH_ready (rs := [21]) (by kernel_rfl) (by simp) ?_
                refine AllReadyH.cons (i := 21) rfl (fun K2 hK2 => ?_) AllReadyH.nil
                go_simp
                go_at_call 46
                refine (HND.out wr.drew (HBWi.out.trans (But.to_below ((But.refl (fun k => k = b ∨ v.ownBlock = some k) wr).drew) HBWi.out.size (fun k hk q => HPB.out k hk q)))).mono ?_
                rintro ev w725 ⟨rfl, bw725⟩
                try go_wp2_with fail
                obtain ⟨Kw725, fw725⟩ := st_call ((But.refl (fun k => k = b ∨ v.ownBlock = some k) wr).drew) bw725
                have Kw725 := Lib.hid Kw725
                have Tw725_0 := Lib.hid (fw725 _ _ (show wr.drew.heap[b]? = _ from HRi.out))
                have Ow725 := Lib.hid (own_keep fw725 (own_drew OWN.out))
                clear bw725 fw725
                refine hK2.out _ _ Kw725.out (fun hHeld2 => ?_)
                clear hK2 K2
                try simp only [pu]
                refine wpAnyH_ready (rs := [22]) (by kernel_rfl) (by simp) ?_
                refine AllReadyH.cons (i := 22) rfl (fun K2 hK2 => ?_) AllReadyH.nil
                rw [if_pos (by rfl)]
                refine wp_buildSlice_row 24 23 _ vl _ 32 rfl rfl Tryz.underlying24 Tryz.sizeOf23 Tryz.zeroValue23 rfl Zvl.out (by omega) (by omega) ?_
                obtain ⟨w726, hw726⟩ : ∃ x, (w725.alloc (.cells vl 23)) = x := ⟨_, rfl⟩
                obtain ⟨g726, hg726⟩ : ∃ x, w725.heap.size = x := ⟨_, rfl⟩
                obtain ⟨Kw726, Tw726_1, qw726, fw726⟩ := st_alloc Kw725.out hw726 hg726
                rw [hw726, hg726]; clear hw726 hg726
                have Kw726 := Lib.hid Kw726
                have Tw726_1 := Lib.hid Tw726_1
                obtain ⟨Tw726_0, dw726_0⟩ := fw726 _ _ Tw725_0.out
                have Tw726_0 := Lib.hid Tw726_0
                have Ow726 := Lib.hid (own_keep (fun k x h => (fw726 k x h).1) Ow725.out)
                clear fw726
                refine hK2.out _ _ Kw726.out (fun hHeld2 => ?_)
                clear hK2 K2
                try simp only [pu]
                refine wpAnyH_ready (rs := [23]) (by kernel_rfl) (by simp) ?_
                refine AllReadyH.cons (i := 23) rfl (fun K2 hK2 => ?_) AllReadyH.nil
                rw [if_pos (by rfl)]
                refine wp_append_list _ _ 24 rfl wo.heap.size _ 23 i0 _ 32 32 Tryz.underlying24 hi hz0 hz1 hz2 rfl (by decide) v (.slice (some ⟨g726, 0, none⟩) 1 1) i 1 (hashCells ((upB (rowB (leavesK s n) j)).take i)) (hashCells [(nodeH x0 x1)]) rfl rfl Ow726.out (own_at (nodeH x0 x1) Tw726_1.out Hvl.out Zvl.out) (hashCells_cell _) (by unfold maxLen; omega) (by omega) (by have := (Kw726.out).size; omega) ?_
                intro v9 w727 o9 g9 a9
                obtain ⟨A9, C9, rfl, hC9⟩ := own_shape o9
                obtain ⟨Kw727, fw727⟩ := st_grow Kw726.out g9 (fun k q => .inr q)
                have Kw727 := Lib.hid Kw727
                have Ow727 := Lib.hid o9
                have Tw727_0 := Lib.hid (fw727 _ _ HNB.out Tw726_0.out)
                have HNB9 : (Value.slice A9 (i + 1) C9).ownBlock ≠ some b := by
                  rcases a9 with q | q
                  · rw [q]; exact HNB.out
                  · rw [q]; intro e; injection e with e; have := (Kw726.out).size; omega
                clear fw727 o9 g9 a9
                refine hK2.out _ _ Kw727.out (fun hHeld2 => ?_)
                clear hK2 K2
                try simp only [pu]
                refine tk (i := 26) (v := ?v46) rfl ?y46 ?r46
                case y46 => (intro w hSw; (try dsimp only at hSw); go_simp; (try with_reducible rfl))
                try simp only [pu]
                refine wpAnyH_ready (rs := [27]) (by kernel_rfl) (by simp) ?_
                refine AllReadyH.cons (i := 27) rfl (fun K2 hK2 => ?_) AllReadyH.nil
                have c9 := (cell_of_row w727 b (32 + (j + 1)) _ 51 (0, 0) Tw727_0.out).trans HVJ.out
                have f9 := frozen_of_row w727 b (32 + (j + 1)) _ 51 Tw727_0.out
                go_simp
                obtain ⟨w728, hw728⟩ : ∃ x, w727.setCell ⟨b, (32 + (j + 1)), none⟩ (Value.slice A9 (i + 1) C9) = x := ⟨_, rfl⟩
                obtain ⟨Kw728, Tw728_0, fw728⟩ := st_cell Kw727.out hw728 (fun _ => .inl rfl) Tw727_0.out
                have Kw728 := Lib.hid Kw728
                have Tw728_0 := Lib.hid Tw728_0
                have Ow728 := Lib.hid (own_keep_ne fw728 Ow727.out HNB9)
                clear fw728
                rw [hw728]
                clear hw728
                refine hK2.out _ _ Kw728.out (fun hHeld2 => ?_)
                clear hK2 K2
                try simp only [pu]
                refine wpAnyH_done (by kernel_rfl) ?_ _
                have KE := Lib.hid Kw728.out
                have TE := Lib.hid Tw728_0.out
                have OE := Lib.hid Ow728.out
                go_wp2
                go_roundw
                case rel => exact ⟨i + 1, _, by omega, by go_num, HSN.out _ _ OE.out, HST.out _ _ TE.out, Lib.hid (HBi.out.step KE.out (fun k hk q => HPO.out k hk q)), HNE.out _ _ OE.out⟩
                case measure => simp [intOf]; omega

              refine AllReadyH.cons (i := 21) rfl (fun K2 hK2 => ?_) ?more47
              · skip
                go_simp
                go_at_call 46
                refine (HND.out wr.drew (HBWi.out.trans (But.to_below ((But.refl (fun k => k = b ∨ v.ownBlock = some k) wr).drew) HBWi.out.size (fun k hk q => HPB.out k hk q)))).mono ?_
                rintro ev w729 ⟨rfl, bw729⟩
                try go_wp2_with fail
                obtain ⟨Kw729, fw729⟩ := st_call ((But.refl (fun k => k = b ∨ v.ownBlock = some k) wr).drew) bw729
                have Kw729 := Lib.hid Kw729
                have Tw729_0 := Lib.hid (fw729 _ _ (show wr.drew.heap[b]? = _ from HRi.out))
                have Ow729 := Lib.hid (own_keep fw729 (own_drew OWN.out))
                clear bw729 fw729
                refine hK2.out _ _ Kw729.out (fun hHeld2 => ?_)
                clear hK2 K2
                try simp only [pu]
                refine wpAnyH_ready (rs := [9, 22]) (by kernel_rfl) (by simp) ?_
                refine AllReadyH.cons (i := 9) rfl (fun K2 hK2 => ?_) ?more48
                · skip
                  have z0 := (cell_of_row w729 b (32 + (j + 1)) _ 51 (0, 0) Tw729_0.out).trans HVJ.out
                  go_simp
                  refine hK2.out _ _ Kw729.out (fun hHeld2 => ?_)
                  clear hK2 K2
                  try simp only [pu]
                  refine wpAnyH_ready (rs := [22]) (by kernel_rfl) (by simp) ?_
                  refine AllReadyH.cons (i := 22) rfl (fun K2 hK2 => ?_) AllReadyH.nil
                  rw [if_pos (by rfl)]
                  refine wp_buildSlice_row 24 23 _ vl _ 32 rfl rfl Tryz.underlying24 Tryz.sizeOf23 Tryz.zeroValue23 rfl Zvl.out (by omega) (by omega) ?_
                  obtain ⟨w730, hw730⟩ : ∃ x, (w729.alloc (.cells vl 23)) = x := ⟨_, rfl⟩
                  obtain ⟨g730, hg730⟩ : ∃ x, w729.heap.size = x := ⟨_, rfl⟩
                  obtain ⟨Kw730, Tw730_1, qw730, fw730⟩ := st_alloc Kw729.out hw730 hg730
                  rw [hw730, hg730]; clear hw730 hg730
                  have Kw730 := Lib.hid Kw730
                  have Tw730_1 := Lib.hid Tw730_1
                  obtain ⟨Tw730_0, dw730_0⟩ := fw730 _ _ Tw729_0.out
                  have Tw730_0 := Lib.hid Tw730_0
                  have Ow730 := Lib.hid (own_keep (fun k x h => (fw730 k x h).1) Ow729.out)
                  clear fw730
                  refine hK2.out _ _ Kw730.out (fun hHeld2 => ?_)
                  clear hK2 K2
                  try simp only [pu]
                  refine wpAnyH_ready (rs := [23]) (by kernel_rfl) (by simp) ?_
                  refine AllReadyH.cons (i := 23) rfl (fun K2 hK2 => ?_) AllReadyH.nil
                  rw [if_pos (by rfl)]
                  refine wp_append_list _ _ 24 rfl wo.heap.size _ 23 i0 _ 32 32 Tryz.underlying24 hi hz0 hz1 hz2 rfl (by decide) v (.slice (some ⟨g730, 0, none⟩) 1 1) i 1 (hashCells ((upB (rowB (leavesK s n) j)).take i)) (hashCells [(nodeH x0 x1)]) rfl rfl Ow730.out (own_at (nodeH x0 x1) Tw730_1.out Hvl.out Zvl.out) (hashCells_cell _) (by unfold maxLen; omega) (by omega) (by have := (Kw730.out).size; omega) ?_
                  intro v9 w731 o9 g9 a9
                  obtain ⟨A9, C9, rfl, hC9⟩ := own_shape o9
                  obtain ⟨Kw731, fw731⟩ := st_grow Kw730.out g9 (fun k q => .inr q)
                  have Kw731 := Lib.hid Kw731
                  have Ow731 := Lib.hid o9
                  have Tw731_0 := Lib.hid (fw731 _ _ HNB.out Tw730_0.out)
                  have HNB9 : (Value.slice A9 (i + 1) C9).ownBlock ≠ some b := by
                    rcases a9 with q | q
                    · rw [q]; exact HNB.out
                    · rw [q]; intro e; injection e with e; have := (Kw730.out).size; omega
                  clear fw731 o9 g9 a9
                  refine hK2.out _ _ Kw731.out (fun hHeld2 => ?_)
                  clear hK2 K2
                  try simp only [pu]
                  refine tk (i := 26) (v := ?v49) rfl ?y49 ?r49
                  case y49 => (intro w hSw; (try dsimp only at hSw); go_simp; (try with_reducible rfl))
                  try simp only [pu]
                  refine wpAnyH_ready (rs := [27]) (by kernel_rfl) (by simp) ?_
                  refine AllReadyH.cons (i := 27) rfl (fun K2 hK2 => ?_) AllReadyH.nil
                  have c9 := (cell_of_row w731 b (32 + (j + 1)) _ 51 (0, 0) Tw731_0.out).trans HVJ.out
                  have f9 := frozen_of_row w731 b (32 + (j + 1)) _ 51 Tw731_0.out
                  go_simp
                  obtain ⟨w732, hw732⟩ : ∃ x, w731.setCell ⟨b, (32 + (j + 1)), none⟩ (Value.slice A9 (i + 1) C9) = x := ⟨_, rfl⟩
                  obtain ⟨Kw732, Tw732_0, fw732⟩ := st_cell Kw731.out hw732 (fun _ => .inl rfl) Tw731_0.out
                  have Kw732 := Lib.hid Kw732
                  have Tw732_0 := Lib.hid Tw732_0
                  have Ow732 := Lib.hid (own_keep_ne fw732 Ow731.out HNB9)
                  clear fw732
                  rw [hw732]
                  clear hw732
                  refine hK2.out _ _ Kw732.out (fun hHeld2 => ?_)
                  clear hK2 K2
                  try simp only [pu]
                  refine wpAnyH_done (by kernel_rfl) ?_ _
                  have KE := Lib.hid Kw732.out
                  have TE := Lib.hid Tw732_0.out
                  have OE := Lib.hid Ow732.out
                  go_wp2
                  go_roundw
                  case rel => exact ⟨i + 1, _, by omega, by go_num, HSN.out _ _ OE.out, HST.out _ _ TE.out, Lib.hid (HBi.out.step KE.out (fun k hk q => HPO.out k hk q)), HNE.out _ _ OE.out⟩
                  case measure => simp [intOf]; omega
                
                refine AllReadyH.cons (i := 22) rfl (fun K2 hK2 => ?_) ?more50
                · skip
                  rw [if_pos (by rfl)]
                  refine wp_buildSlice_row 24 23 _ vl _ 32 rfl rfl Tryz.underlying24 Tryz.sizeOf23 Tryz.zeroValue23 rfl Zvl.out (by omega) (by omega) ?_
                  obtain ⟨w733, hw733⟩ : ∃ x, (w729.alloc (.cells vl 23)) = x := ⟨_, rfl⟩
                  obtain ⟨g733, hg733⟩ : ∃ x, w729.heap.size = x := ⟨_, rfl⟩
                  obtain ⟨Kw733, Tw733_1, qw733, fw733⟩ := st_alloc Kw729.out hw733 hg733
                  rw [hw733, hg733]; clear hw733 hg733
                  have Kw733 := Lib.hid Kw733
                  have Tw733_1 := Lib.hid Tw733_1
                  obtain ⟨Tw733_0, dw733_0⟩ := fw733 _ _ Tw729_0.out
                  have Tw733_0 := Lib.hid Tw733_0
                  have Ow733 := Lib.hid (own_keep (fun k x h => (fw733 k x h).1) Ow729.out)
                  clear fw733
                  refine hK2.out _ _ Kw733.out (fun hHeld2 => ?_)
                  clear hK2 K2
                  try simp only [pu]
                  refine wpAnyH_ready (rs := [9]) (by kernel_rfl) (by simp) ?_
                  refine AllReadyH.cons (i := 9) rfl (fun K2 hK2 => ?_) AllReadyH.nil
                  have z0 := (cell_of_row w733 b (32 + (j + 1)) _ 51 (0, 0) Tw733_0.out).trans HVJ.out
                  go_simp
                  refine hK2.out _ _ Kw733.out (fun hHeld2 => ?_)
                  clear hK2 K2
                  try simp only [pu]
                  refine wpAnyH_ready (rs := [23]) (by kernel_rfl) (by simp) ?_
                  refine AllReadyH.cons (i := 23) rfl (fun K2 hK2 => ?_) AllReadyH.nil
                  rw [if_pos (by rfl)]
                  refine wp_append_list _ _ 24 rfl wo.heap.size _ 23 i0 _ 32 32 Tryz.underlying24 hi hz0 hz1 hz2 rfl (by decide) v (.slice (some ⟨g733, 0, none⟩) 1 1) i 1 (hashCells ((upB (rowB (leavesK s n) j)).take i)) (hashCells [(nodeH x0 x1)]) rfl rfl Ow733.out (own_at (nodeH x0 x1) Tw733_1.out Hvl.out Zvl.out) (hashCells_cell _) (by unfold maxLen; omega) (by omega) (by have := (Kw733.out).size; omega) ?_
                  intro v9 w734 o9 g9 a9
                  obtain ⟨A9, C9, rfl, hC9⟩ := own_shape o9
                  obtain ⟨Kw734, fw734⟩ := st_grow Kw733.out g9 (fun k q => .inr q)
                  have Kw734 := Lib.hid Kw734
                  have Ow734 := Lib.hid o9
                  have Tw734_0 := Lib.hid (fw734 _ _ HNB.out Tw733_0.out)
                  have HNB9 : (Value.slice A9 (i + 1) C9).ownBlock ≠ some b := by
                    rcases a9 with q | q
                    · rw [q]; exact HNB.out
                    · rw [q]; intro e; injection e with e; have := (Kw733.out).size; omega
                  clear fw734 o9 g9 a9
                  refine hK2.out _ _ Kw734.out (fun hHeld2 => ?_)
                  clear hK2 K2
                  try simp only [pu]
                  refine tk (i := 26) (v := ?v51) rfl ?y51 ?r51
                  case y51 => (intro w hSw; (try dsimp only at hSw); go_simp; (try with_reducible rfl))
                  try simp only [pu]
                  refine wpAnyH_ready (rs := [27]) (by kernel_rfl) (by simp) ?_
                  refine AllReadyH.cons (i := 27) rfl (fun K2 hK2 => ?_) AllReadyH.nil
                  have c9 := (cell_of_row w734 b (32 + (j + 1)) _ 51 (0, 0) Tw734_0.out).trans HVJ.out
                  have f9 := frozen_of_row w734 b (32 + (j + 1)) _ 51 Tw734_0.out
                  go_simp
                  obtain ⟨w735, hw735⟩ : ∃ x, w734.setCell ⟨b, (32 + (j + 1)), none⟩ (Value.slice A9 (i + 1) C9) = x := ⟨_, rfl⟩
                  obtain ⟨Kw735, Tw735_0, fw735⟩ := st_cell Kw734.out hw735 (fun _ => .inl rfl) Tw734_0.out
                  have Kw735 := Lib.hid Kw735
                  have Tw735_0 := Lib.hid Tw735_0
                  have Ow735 := Lib.hid (own_keep_ne fw735 Ow734.out HNB9)
                  clear fw735
                  rw [hw735]
                  clear hw735
                  refine hK2.out _ _ Kw735.out (fun hHeld2 => ?_)
                  clear hK2 K2
                  try simp only [pu]
                  refine wpAnyH_done (by kernel_rfl) ?_ _
                  have KE := Lib.hid Kw735.out
                  have TE := Lib.hid Tw735_0.out
                  have OE := Lib.hid Ow735.out
                  go_wp2
                  go_roundw
                  case rel => exact ⟨i + 1, _, by omega, by go_num, HSN.out _ _ OE.out, HST.out _ _ TE.out, Lib.hid (HBi.out.step KE.out (fun k hk q => HPO.out k hk q)), HNE.out _ _ OE.out⟩
                  case measure => simp [intOf]; omega
                
                exact AllReadyH.nil

              exact AllReadyH.nil
            · obtain rfl : M = i := by omega
              have HRJ : Hid (KRow wr b v (rowB (leavesK s n) (j + 1))) := Lib.hid (krow_own (n := M) (upB_mem _) HUL.out (by have := OWN.out; rwa [List.take_of_length_le (Nat.le_of_eq HUL.out)] at this) (Array.getElem?_eq_some_iff.1 HR1.out).1)
              have HRW1 : Hid (∀ k, k < 7 → ∃ u, (ls.set (j + 1) v)[k]? = some u ∧ (k ≤ j + 1 → KRow wr b u (rowB (leavesK s n) k)) ∧ (j + 1 < k → u = .slice none 0 0)) := Lib.hid (fun k hk => by
                by_cases e : k = j + 1
                · subst e; exact ⟨v, by rw [List.getElem?_set_self (by rw [HLS.out]; omega)], fun _ => HRJ.out, fun q => by omega⟩
                · obtain ⟨u, h1, h2, h3⟩ := HRW.out k hk
                  exact ⟨u, by rw [List.getElem?_set_ne (by omega)]; exact h1, fun q => (h2 (by omega)).step HBi.out, fun q => h3 (by omega)⟩)
              have HLS2 : Hid ((ls.set (j + 1) v).length = 7) := Lib.hid (by rw [List.length_set]; exact HLS.out)
              have HRi := Lib.hid HRi.out
              have HBi := Lib.hid (HBT.out.trans HBi.out)
              go_wp2_with fail
              go_roundw
              case rel => exact ⟨j + 1, _, by omega, by go_num, HLS2, HRi, HRW1, HBi⟩
              case measure => simp [intOf]; omega
        · obtain rfl : n = j := by omega
          have HFIN : Hid (KAt wr b s (rowB (leavesK s n)) n 0 v0 ls) := Lib.hid ⟨Hv0.out, Zv0.out, HR.out, HLS.out, fun k hk => by
            obtain ⟨u, h1, h2, h3⟩ := HRW.out k hk
            by_cases e : k ≤ n
            · exact ⟨u, h1, h2 e⟩
            · rw [h3 (by omega)] at h1
              refine ⟨_, h1, ?_⟩
              rw [rowB_over (leavesK_length s n) k (by omega)]
              exact KRow.nil _ _⟩
          go_wp2_with fail
          go_ret2
          exact ⟨b, v0, ls, by omega, rfl, HFIN.out, HBW.out⟩

end Go.Proofs.YtnpblpbcchminaaGreatDoor
