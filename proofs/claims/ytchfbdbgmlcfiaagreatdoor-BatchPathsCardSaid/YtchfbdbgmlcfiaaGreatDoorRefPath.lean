/- cartularyref07.Split, path, sub: what the reference answers. No condition. -/
import Derived.Test.YtchfbdbgmlcfiaaGreatDoorShapePath
import Derived.Test.YtchfbdbgmlcfiaaGreatDoorShapeProof
import Derived.Test.YtchfbdbgmlcfiaaGreatDoorBitsLog
import Derived.Test.YtchfbdbgmlcfiaaGreatDoorHashMem
import Derived.Deep.RegionHeld3
import Derived.Deep.AppendLies
import Derived.Outline
namespace Go.Proofs.YtchfbdbgmlcfiaaGreatDoor
open Go.ChangeShapes Go.WideShapes Go.ChangeAt Go.RowKit
set_option linter.unusedVariables false
/-- a call that hands back a new list -/
def RefPost (e size : Nat) (w : World) (n : Nat) (xs : List Value) (ev : Ending) (w' : World) : Prop :=
  ∃ v, ev = .returned v ∧ w'.ownsRow w.heap.size e size v n xs ∧ Below w.heap.size w w'
theorem refsplit_yes (n : Int) (w : World) (h2 : 2 ≤ n) (h : n ≤ 9223372036854775808) :
    Calls Tryz.prog 108 #[.int .u64 n] w fun e w' => e = .returned (.tuple #[.int .u64 (blwI n), .bool true]) ∧ w = w' := by
  go_enter Tryz.func108, Tryz.ntmps108
  go_wp2_with fail
  refine (refbelow_yes _ _ h2 (by omega)).mono ?_
  rintro e w' ⟨rfl, rfl⟩
  go_wp2
  go_ret2
  exact ⟨rfl, rfl⟩
theorem refsplit_no (n : Int) (w : World) (h0 : 0 ≤ n) (hn : n < 18446744073709551616) (h : n < 2 ∨ 9223372036854775808 < n) :
    Calls Tryz.prog 108 #[.int .u64 n] w fun e w' => e = .returned (.tuple #[.int .u64 0, .bool false]) ∧ w = w' := by
  by_cases hc : 9223372036854775808 < n
  · clear h
    go_enter Tryz.func108, Tryz.ntmps108
    go_wp2
    go_ret2
    exact ⟨rfl, rfl⟩
  · have h2 : n < 2 := by omega
    clear h
    go_enter Tryz.func108, Tryz.ntmps108
    go_wp2_with fail
    refine (refbelow_no _ _ h0 h2).mono ?_
    rintro e w' ⟨rfl, rfl⟩
    go_wp2
    go_ret2
    exact ⟨rfl, rfl⟩

set_option maxRecDepth 100000 in
set_option maxHeartbeats 2000000 in
theorem refpath (f : Nat) : ∀ (b e ix : Int) (w : World), f ≤ 64 → 0 ≤ b → b < e → e ≤ 9223372036854775808 → 0 ≤ ix → ix < 18446744073709551616 → e - b ≤ pow2 f →
    Calls Tryz.prog 107 #[.int .u64 ix, .agg #[.int .u64 b, .int .u64 e]] w (RefPost 101 2 w (pathL f ix b e).length (spanCells (pathL f ix b e))) := by
  induction f with
  | zero =>
    intro b e ix w hf64 h0 h1 he hx0 hx1 hfu
    rw [pow2_zero] at hfu
    have heq : (e - b == 1) = true := by simp; omega
    go_enter Tryz.func107, Tryz.ntmps107
    go_wp2
    go_ret
    refine ⟨_, rfl, World.ownsRow_nil _ _ _ _, ?_⟩
    repeat (first | exact Below.refl _ _ | (refine below_drewN ?_) | (refine Below.drew ?_) | (refine Below.alloc ?_ (by simp; try omega) _) | (refine Below.setCell ?_ (by simp; try omega) _))
  | succ f ih =>
    intro b e ix w hf64 h0 h1 he hx0 hx1 hfu
    by_cases hs : e - b < 2
    · have hp : pathL (f + 1) ix b e = [] := by unfold pathL; rw [if_pos hs]
      rw [hp]
      have heq : (e - b == 1) = true := by simp; omega
      clear hp hfu
      go_enter Tryz.func107, Tryz.ntmps107
      go_wp2
      go_ret
      refine ⟨_, rfl, World.ownsRow_nil _ _ _ _, ?_⟩
      repeat (first | exact Below.refl _ _ | (refine below_drewN ?_) | (refine Below.drew ?_) | (refine Below.alloc ?_ (by simp; try omega) _) | (refine Below.setCell ?_ (by simp; try omega) _))
    · have hk := blwI_bd (n := e - b) (by omega)
      have hkf := blwI_le_pow (n := e - b) (f := f) (by omega) hfu
      have hneq : (e - b == 1) = false := by simp; omega
      obtain ⟨i0, hi, hz0, hz1, hz2⟩ := info_parts info_span
      have HI := Lib.hid ih
      clear ih
      obtain ⟨m, hm⟩ : ∃ m, b + blwI (e - b) = m := ⟨_, rfl⟩
      have HP : Hid (pathL (f + 1) ix b e = if ix < m then pathL f ix b m ++ [(m, e)] else pathL f ix m e ++ [(b, m)]) := Lib.hid (by rw [pathL, if_neg hs, hm])
      have HK := Lib.hid (And.intro hfu hkf)
      have HM := Lib.hid hm
      have hmb : b < m ∧ m < e := by omega
      have hpw : Hid (m - b ≤ pow2 f ∧ e - m ≤ pow2 f) := Lib.hid (by omega)
      clear hfu hkf
      go_enter Tryz.func107, Tryz.ntmps107
      go_wp2_with fail
      refine (refsplit_yes _ _ (by omega) (by omega)).mono ?_
      rintro ev w' ⟨rfl, rfl⟩
      have hkb : Hid (blwI (e - b) = m - b) := Lib.hid (by omega)
      obtain ⟨t, ht⟩ : ∃ t, blwI (e - b) = t := ⟨_, rfl⟩
      rw [ht]
      have htm : b + t = m := by omega
      rw [ht] at hk hm
      by_cases hlt : ix < m
      · have HP2 : Hid (pathL (f + 1) ix b e = pathL f ix b m ++ [(m, e)]) := Lib.hid (by rw [HP.out, if_pos hlt])
        have hll := pathL_len f ix b m
        go_wp2_with fail
        obtain ⟨W, hW⟩ : ∃ W, ((w.alloc (.cells #[.int .u64 b, .int .u64 e] 101)).alloc (.cells #[.int .u64 b, .int .u64 m] 101)).alloc (.cells #[.int .u64 m, .int .u64 e] 101) = W := ⟨_, rfl⟩
        have hWs : w.heap.size + 3 ≤ W.heap.size := by rw [← hW]; simp
        have hbW : Below w.heap.size w W := by rw [← hW]; exact (((Below.refl _ _).alloc (by simp) _).alloc (by simp) _).alloc (by simp; omega) _
        have p0 : W.cell? ⟨w.heap.size + 1, 0, none⟩ = some (.int .u64 b) := by rw [← hW, show w.heap.size + 1 = (w.alloc (.cells #[.int .u64 b, .int .u64 e] 101)).heap.size by simp]; exact cell_alloc (cell_new #[.int .u64 b, .int .u64 m] 101 0 (.int .u64 b) rfl) _
        have p1 : W.cell? ⟨w.heap.size + 1, 1, none⟩ = some (.int .u64 m) := by rw [← hW, show w.heap.size + 1 = (w.alloc (.cells #[.int .u64 b, .int .u64 e] 101)).heap.size by simp]; exact cell_alloc (cell_new #[.int .u64 b, .int .u64 m] 101 1 (.int .u64 m) rfl) _
        have q0 : W.cell? ⟨w.heap.size + 2, 0, none⟩ = some (.int .u64 m) := by rw [← hW, show w.heap.size + 2 = ((w.alloc (.cells #[.int .u64 b, .int .u64 e] 101)).alloc (.cells #[.int .u64 b, .int .u64 m] 101)).heap.size by simp]; exact cell_new #[.int .u64 m, .int .u64 e] 101 0 (.int .u64 m) rfl
        have q1 : W.cell? ⟨w.heap.size + 2, 1, none⟩ = some (.int .u64 e) := by rw [← hW, show w.heap.size + 2 = ((w.alloc (.cells #[.int .u64 b, .int .u64 e] 101)).alloc (.cells #[.int .u64 b, .int .u64 m] 101)).heap.size by simp]; exact cell_new #[.int .u64 m, .int .u64 e] 101 1 (.int .u64 e) rfl
        rw [hW]
        clear hW
        have K4 : ∀ w' : World, Below W.heap.size W w' → w'.cell? ⟨w.heap.size + 1, 0, none⟩ = some (.int .u64 b) ∧ w'.cell? ⟨w.heap.size + 1, 1, none⟩ = some (.int .u64 m) ∧ w'.cell? ⟨w.heap.size + 2, 0, none⟩ = some (.int .u64 m) ∧ w'.cell? ⟨w.heap.size + 2, 1, none⟩ = some (.int .u64 e) :=
          fun w' hq => ⟨cell_below hq p0 (by omega), cell_below hq p1 (by omega), cell_below hq q0 (by omega), cell_below hq q1 (by omega)⟩
        have K4b : ∀ w' : World, (∀ k : Nat, k < W.heap.size → w'.heap[k]? = W.heap[k]?) → w'.cell? ⟨w.heap.size + 1, 0, none⟩ = some (.int .u64 b) ∧ w'.cell? ⟨w.heap.size + 1, 1, none⟩ = some (.int .u64 m) ∧ w'.cell? ⟨w.heap.size + 2, 0, none⟩ = some (.int .u64 m) ∧ w'.cell? ⟨w.heap.size + 2, 1, none⟩ = some (.int .u64 e) :=
          fun w' h => ⟨cell_block (h _ (by omega)) p0, cell_block (h _ (by omega)) p1, cell_block (h _ (by omega)) q0, cell_block (h _ (by omega)) q1⟩
        go_region_held3 (fun w' => w'.cell? ⟨w.heap.size + 1, 0, none⟩ = some (.int .u64 b) ∧ w'.cell? ⟨w.heap.size + 1, 1, none⟩ = some (.int .u64 m) ∧ w'.cell? ⟨w.heap.size + 2, 0, none⟩ = some (.int .u64 m) ∧ w'.cell? ⟨w.heap.size + 2, 1, none⟩ = some (.int .u64 e))
          (first | exact s3 | exact K4 _ (by (repeat (first | assumption | exact Below.refl _ _ | (refine Below.drew ?_) | (refine below_drewN ?_) | (refine Below.alloc ?_ (by first | omega | (simp; omega) | simp) _)))))
          (first
            | (refine step_append_lies _ rfl _ _ 92 rfl w.heap.size 101 i0 (.agg #[.int .u64 0, .int .u64 0]) 2 16 Tryz.underlying92 hi hz0 hz1 hz2 rfl (by decide) v1 _ _ rfl (o1.alloc _) ⟨w1.heap.size, 0, none⟩ 1 1 [.int .u64 m, .int .u64 e] rfl rfl (news_new _ _) (by simp [Value.oneCell']) (by decide) (by unfold maxLen; omega) (by omega) (by first | omega | (simp; omega)) _ rfl ?_; intro g3 cap3 w3 hown3 hgrow3 hat3 hlt3; have hbw3 : Below w.heap.size w w3 := ((hbW.trans (hq.mono (by omega))).alloc (by first | omega | (simp; omega)) _).grown hgrow3 (by first | omega | (simp; omega)) (fun k hk => (o1.lt k hk).1); have s3 := K4b w3 (fun k hk => (hgrow3.block k (by first | omega | (simp; omega)) (fun q => hob k hk q)).trans ((((Below.refl _ w1).alloc (Nat.le_refl _) _).block k (by omega)).trans (hq.block k (by omega)))))
            | (refine step_append_lies _ rfl _ _ 92 rfl w.heap.size 101 i0 (.agg #[.int .u64 0, .int .u64 0]) 2 16 Tryz.underlying92 hi hz0 hz1 hz2 rfl (by decide) v1 _ _ rfl o1 ⟨W.heap.size, 0, none⟩ 1 1 [.int .u64 m, .int .u64 e] rfl rfl (fun j u hu => by rw [addr_add]; exact cell_below bq (cell_new _ _ j u (by simpa using hu)) (by simp)) (by simp [Value.oneCell']) (by decide) (by unfold maxLen; omega) (by omega) (by omega) _ rfl ?_; intro g3 cap3 w3 hown3 hgrow3 hat3 hlt3; have hbw3 : Below w.heap.size w w3 := (hbW.trans (hq.mono (by omega))).grown hgrow3 (by omega) (fun k hk => (o1.lt k hk).1); have s3 := K4b w3 (fun k hk => (hgrow3.block k (by omega) (fun q => hob k hk q)).trans (hq.block k (by omega))))
            | (go_at_call 107; refine (HI.out b m ix _ (by omega) h0 (by omega) (by omega) hx0 hx1 hpw.out.1).mono ?_; rintro ev w1 ⟨v1, rfl, o1, bq⟩; have hq : Below W.heap.size W w1 := Below.trans (by (repeat (first | assumption | exact Below.refl _ _ | (refine Below.drew ?_) | (refine below_drewN ?_) | (refine Below.alloc ?_ (by first | omega | (simp; omega) | simp) _)))) (bq.mono (by simp)); have hob : ∀ k, k < W.heap.size → some k = v1.ownBlock → False := fun k hk q => (by have h1 := (o1.lt k q.symm).1; simp at h1; omega); have o1 : w1.ownsRow w.heap.size 101 2 v1 _ _ := own_mono o1 (by first | omega | (simp; omega)); have hs1 := hq.size))
        all_goals
          go_wp2
          go_ret
          refine ⟨_, rfl, own_congr hown3 ?_ ?_, hbw3⟩
          · rw [HP2.out]; simp
          · rw [HP2.out, spanCells_append]; rfl
      · have HP2 : Hid (pathL (f + 1) ix b e = pathL f ix m e ++ [(b, m)]) := Lib.hid (by rw [HP.out, if_neg hlt])
        have hll := pathL_len f ix m e
        go_wp2_with fail
        obtain ⟨W, hW⟩ : ∃ W, ((w.alloc (.cells #[.int .u64 b, .int .u64 e] 101)).alloc (.cells #[.int .u64 b, .int .u64 m] 101)).alloc (.cells #[.int .u64 m, .int .u64 e] 101) = W := ⟨_, rfl⟩
        have hWs : w.heap.size + 3 ≤ W.heap.size := by rw [← hW]; simp
        have hbW : Below w.heap.size w W := by rw [← hW]; exact (((Below.refl _ _).alloc (by simp) _).alloc (by simp) _).alloc (by simp; omega) _
        have p0 : W.cell? ⟨w.heap.size + 1, 0, none⟩ = some (.int .u64 b) := by rw [← hW, show w.heap.size + 1 = (w.alloc (.cells #[.int .u64 b, .int .u64 e] 101)).heap.size by simp]; exact cell_alloc (cell_new #[.int .u64 b, .int .u64 m] 101 0 (.int .u64 b) rfl) _
        have p1 : W.cell? ⟨w.heap.size + 1, 1, none⟩ = some (.int .u64 m) := by rw [← hW, show w.heap.size + 1 = (w.alloc (.cells #[.int .u64 b, .int .u64 e] 101)).heap.size by simp]; exact cell_alloc (cell_new #[.int .u64 b, .int .u64 m] 101 1 (.int .u64 m) rfl) _
        have q0 : W.cell? ⟨w.heap.size + 2, 0, none⟩ = some (.int .u64 m) := by rw [← hW, show w.heap.size + 2 = ((w.alloc (.cells #[.int .u64 b, .int .u64 e] 101)).alloc (.cells #[.int .u64 b, .int .u64 m] 101)).heap.size by simp]; exact cell_new #[.int .u64 m, .int .u64 e] 101 0 (.int .u64 m) rfl
        have q1 : W.cell? ⟨w.heap.size + 2, 1, none⟩ = some (.int .u64 e) := by rw [← hW, show w.heap.size + 2 = ((w.alloc (.cells #[.int .u64 b, .int .u64 e] 101)).alloc (.cells #[.int .u64 b, .int .u64 m] 101)).heap.size by simp]; exact cell_new #[.int .u64 m, .int .u64 e] 101 1 (.int .u64 e) rfl
        rw [hW]
        clear hW
        have K4 : ∀ w' : World, Below W.heap.size W w' → w'.cell? ⟨w.heap.size + 1, 0, none⟩ = some (.int .u64 b) ∧ w'.cell? ⟨w.heap.size + 1, 1, none⟩ = some (.int .u64 m) ∧ w'.cell? ⟨w.heap.size + 2, 0, none⟩ = some (.int .u64 m) ∧ w'.cell? ⟨w.heap.size + 2, 1, none⟩ = some (.int .u64 e) :=
          fun w' hq => ⟨cell_below hq p0 (by omega), cell_below hq p1 (by omega), cell_below hq q0 (by omega), cell_below hq q1 (by omega)⟩
        have K4b : ∀ w' : World, (∀ k : Nat, k < W.heap.size → w'.heap[k]? = W.heap[k]?) → w'.cell? ⟨w.heap.size + 1, 0, none⟩ = some (.int .u64 b) ∧ w'.cell? ⟨w.heap.size + 1, 1, none⟩ = some (.int .u64 m) ∧ w'.cell? ⟨w.heap.size + 2, 0, none⟩ = some (.int .u64 m) ∧ w'.cell? ⟨w.heap.size + 2, 1, none⟩ = some (.int .u64 e) :=
          fun w' h => ⟨cell_block (h _ (by omega)) p0, cell_block (h _ (by omega)) p1, cell_block (h _ (by omega)) q0, cell_block (h _ (by omega)) q1⟩
        go_region_held3 (fun w' => w'.cell? ⟨w.heap.size + 1, 0, none⟩ = some (.int .u64 b) ∧ w'.cell? ⟨w.heap.size + 1, 1, none⟩ = some (.int .u64 m) ∧ w'.cell? ⟨w.heap.size + 2, 0, none⟩ = some (.int .u64 m) ∧ w'.cell? ⟨w.heap.size + 2, 1, none⟩ = some (.int .u64 e))
          (first | exact s3 | exact K4 _ (by (repeat (first | assumption | exact Below.refl _ _ | (refine Below.drew ?_) | (refine below_drewN ?_) | (refine Below.alloc ?_ (by first | omega | (simp; omega) | simp) _)))))
          (first
            | (refine step_append_lies _ rfl _ _ 92 rfl w.heap.size 101 i0 (.agg #[.int .u64 0, .int .u64 0]) 2 16 Tryz.underlying92 hi hz0 hz1 hz2 rfl (by decide) v1 _ _ rfl (o1.alloc _) ⟨w1.heap.size, 0, none⟩ 1 1 [.int .u64 b, .int .u64 m] rfl rfl (news_new _ _) (by simp [Value.oneCell']) (by decide) (by unfold maxLen; omega) (by omega) (by first | omega | (simp; omega)) _ rfl ?_; intro g3 cap3 w3 hown3 hgrow3 hat3 hlt3; have hbw3 : Below w.heap.size w w3 := ((hbW.trans (hq.mono (by omega))).alloc (by first | omega | (simp; omega)) _).grown hgrow3 (by first | omega | (simp; omega)) (fun k hk => (o1.lt k hk).1); have s3 := K4b w3 (fun k hk => (hgrow3.block k (by first | omega | (simp; omega)) (fun q => hob k hk q)).trans ((((Below.refl _ w1).alloc (Nat.le_refl _) _).block k (by omega)).trans (hq.block k (by omega)))))
            | (refine step_append_lies _ rfl _ _ 92 rfl w.heap.size 101 i0 (.agg #[.int .u64 0, .int .u64 0]) 2 16 Tryz.underlying92 hi hz0 hz1 hz2 rfl (by decide) v1 _ _ rfl o1 ⟨W.heap.size, 0, none⟩ 1 1 [.int .u64 b, .int .u64 m] rfl rfl (fun j u hu => by rw [addr_add]; exact cell_below bq (cell_new _ _ j u (by simpa using hu)) (by simp)) (by simp [Value.oneCell']) (by decide) (by unfold maxLen; omega) (by omega) (by omega) _ rfl ?_; intro g3 cap3 w3 hown3 hgrow3 hat3 hlt3; have hbw3 : Below w.heap.size w w3 := (hbW.trans (hq.mono (by omega))).grown hgrow3 (by omega) (fun k hk => (o1.lt k hk).1); have s3 := K4b w3 (fun k hk => (hgrow3.block k (by omega) (fun q => hob k hk q)).trans (hq.block k (by omega))))
            | (go_at_call 107; refine (HI.out m e ix _ (by omega) (by omega) (by omega) (by omega) hx0 hx1 hpw.out.2).mono ?_; rintro ev w1 ⟨v1, rfl, o1, bq⟩; have hq : Below W.heap.size W w1 := Below.trans (by (repeat (first | assumption | exact Below.refl _ _ | (refine Below.drew ?_) | (refine below_drewN ?_) | (refine Below.alloc ?_ (by first | omega | (simp; omega) | simp) _)))) (bq.mono (by simp)); have hob : ∀ k, k < W.heap.size → some k = v1.ownBlock → False := fun k hk q => (by have h1 := (o1.lt k q.symm).1; simp at h1; omega); have o1 : w1.ownsRow w.heap.size 101 2 v1 _ _ := own_mono o1 (by first | omega | (simp; omega)); have hs1 := hq.size))
        all_goals
          go_wp2
          go_ret
          refine ⟨_, rfl, own_congr hown3 ?_ ?_, hbw3⟩
          · rw [HP2.out]; simp
          · rw [HP2.out, spanCells_append]; rfl

end Go.Proofs.YtchfbdbgmlcfiaaGreatDoor
