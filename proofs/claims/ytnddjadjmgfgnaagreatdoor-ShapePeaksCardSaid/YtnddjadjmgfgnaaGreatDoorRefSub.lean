/- cartularyref07.sub: what the reference answers. No condition. -/
import Derived.Test.YtnddjadjmgfgnaaGreatDoorRefPath
namespace Go.Proofs.YtnddjadjmgfgnaaGreatDoor
open Go.ChangeShapes Go.WideShapes Go.ChangeAt Go.RowKit
set_option linter.unusedVariables false
set_option maxRecDepth 100000 in
set_option maxHeartbeats 2000000 in
theorem refsub (f : Nat) : ∀ (b e k : Int) (kn : Bool) (w : World), f ≤ 64 → 0 ≤ b → 0 < k → k ≤ e - b → e ≤ 9223372036854775808 → e - b ≤ pow2 f → kn = decide (b = 0) →
    Calls Tryz.prog 86 #[.int .u64 k, .agg #[.int .u64 b, .int .u64 e], .bool kn] w (RefPost 70 2 w (proofL f (b + k) b e).length (spanCells (proofL f (b + k) b e))) := by
  have base : ∀ (f : Nat) (b e k : Int) (kn : Bool) (w : World), 0 ≤ b → 0 < k → k = e - b → e ≤ 9223372036854775808 → kn = decide (b = 0) →
      Calls Tryz.prog 86 #[.int .u64 k, .agg #[.int .u64 b, .int .u64 e], .bool kn] w (RefPost 70 2 w (proofL f (b + k) b e).length (spanCells (proofL f (b + k) b e))) := by
    intro f b e k kn w h0 h1 hk he hkn
    have hP : proofL f (b + k) b e = if 0 < b then [(b, e)] else [] := by rw [show b + k = e by omega, proofL_end]
    rw [hP]
    clear hP
    have heq : (k == e - b) = true := by simp; omega
    by_cases hb : b = 0
    · obtain rfl : kn = true := by rw [hkn]; simpa using hb
      rw [if_neg (by omega)]
      clear hkn hb
      go_enter Tryz.func86, Tryz.ntmps86
      go_wp2
      go_ret
      refine ⟨_, rfl, World.ownsRow_nil _ _ _ _, ?_⟩
      repeat (first | exact Below.refl _ _ | (refine below_drewN ?_) | (refine Below.drew ?_) | (refine Below.alloc ?_ (by simp; try omega) _) | (refine Below.setCell ?_ (by simp; try omega) _))
    · obtain rfl : kn = false := by rw [hkn]; simpa using hb
      rw [if_pos (by omega)]
      clear hkn hb
      go_enter Tryz.func86, Tryz.ntmps86
      go_wp2
      go_ret
      refine ⟨_, rfl, own_congr (by have h := own_new (w := w.alloc (.cells #[.int .u64 b, .int .u64 e] 70)) (base := w.heap.size) #[.int .u64 b, .int .u64 e] 70 1 2 (by simp) rfl (by decide); rw [World.size_alloc] at h; exact h) rfl rfl, ?_⟩
      repeat (first | exact Below.refl _ _ | (refine below_drewN ?_) | (refine Below.drew ?_) | (refine Below.alloc ?_ (by simp; try omega) _) | (refine Below.setCell ?_ (by simp; try omega) _))
  induction f with
  | zero =>
    intro b e k kn w hf64 h0 h1 hk he hfu hkn
    rw [pow2_zero] at hfu
    exact base 0 b e k kn w h0 h1 (by omega) he hkn
  | succ f ih =>
    intro b e k kn w hf64 h0 h1 hk1 he hfu hkn
    by_cases hs : k = e - b
    · exact base (f + 1) b e k kn w h0 h1 hs he hkn
    · have hk := blwI_bd (n := e - b) (by omega)
      have hkf := blwI_le_pow (n := e - b) (f := f) (by omega) hfu
      have hneq : (k == e - b) = false := by simpa using hs
      obtain ⟨i0, hi, hz0, hz1, hz2⟩ := info_parts info_span
      have HI := Lib.hid ih
      clear ih base
      obtain ⟨m, hm⟩ : ∃ m, b + blwI (e - b) = m := ⟨_, rfl⟩
      have HP : Hid (proofL (f + 1) (b + k) b e = if b + k ≤ m then proofL f (b + k) b m ++ [(m, e)] else proofL f (b + k) m e ++ [(b, m)]) := Lib.hid (by rw [proofL, if_neg (by omega), hm])
      have hmb : b < m ∧ m < e := by omega
      have hpw : Hid (m - b ≤ pow2 f ∧ e - m ≤ pow2 f) := Lib.hid (by omega)
      have HKN := Lib.hid hkn
      clear hfu hkf hkn
      go_enter Tryz.func86, Tryz.ntmps86
      go_wp2_with fail
      refine (refsplit_yes _ _ (by omega) (by omega)).mono ?_
      rintro ev w' ⟨rfl, rfl⟩
      obtain ⟨t, ht⟩ : ∃ t, blwI (e - b) = t := ⟨_, rfl⟩
      rw [ht]
      have htm : b + t = m := by omega
      have HTM := Lib.hid htm
      rw [ht] at hk hm
      by_cases hlt : k ≤ t
      · have HP2 : Hid (proofL (f + 1) (b + k) b e = proofL f (b + k) b m ++ [(m, e)]) := Lib.hid (by rw [HP.out, if_pos (by omega)])
        have hll := proofL_len f (b + k) b m
        have hkm : k ≤ m - b := by omega
        go_wp2_with fail
        obtain ⟨W, hW⟩ : ∃ W, ((w.alloc (.cells #[.int .u64 b, .int .u64 e] 70)).alloc (.cells #[.int .u64 b, .int .u64 m] 70)).alloc (.cells #[.int .u64 m, .int .u64 e] 70) = W := ⟨_, rfl⟩
        have hWs : w.heap.size + 3 ≤ W.heap.size := by rw [← hW]; simp
        have hbW : Below w.heap.size w W := by rw [← hW]; exact (((Below.refl _ _).alloc (by simp) _).alloc (by simp) _).alloc (by simp; omega) _
        have p0 : W.cell? ⟨w.heap.size + 1, 0, none⟩ = some (.int .u64 b) := by rw [← hW, show w.heap.size + 1 = (w.alloc (.cells #[.int .u64 b, .int .u64 e] 70)).heap.size by simp]; exact cell_alloc (cell_new #[.int .u64 b, .int .u64 m] 70 0 (.int .u64 b) rfl) _
        have p1 : W.cell? ⟨w.heap.size + 1, 1, none⟩ = some (.int .u64 m) := by rw [← hW, show w.heap.size + 1 = (w.alloc (.cells #[.int .u64 b, .int .u64 e] 70)).heap.size by simp]; exact cell_alloc (cell_new #[.int .u64 b, .int .u64 m] 70 1 (.int .u64 m) rfl) _
        have q0 : W.cell? ⟨w.heap.size + 2, 0, none⟩ = some (.int .u64 m) := by rw [← hW, show w.heap.size + 2 = ((w.alloc (.cells #[.int .u64 b, .int .u64 e] 70)).alloc (.cells #[.int .u64 b, .int .u64 m] 70)).heap.size by simp]; exact cell_new #[.int .u64 m, .int .u64 e] 70 0 (.int .u64 m) rfl
        have q1 : W.cell? ⟨w.heap.size + 2, 1, none⟩ = some (.int .u64 e) := by rw [← hW, show w.heap.size + 2 = ((w.alloc (.cells #[.int .u64 b, .int .u64 e] 70)).alloc (.cells #[.int .u64 b, .int .u64 m] 70)).heap.size by simp]; exact cell_new #[.int .u64 m, .int .u64 e] 70 1 (.int .u64 e) rfl
        rw [hW]
        clear hW
        have K4 : ∀ w' : World, Below W.heap.size W w' → w'.cell? ⟨w.heap.size + 1, 0, none⟩ = some (.int .u64 b) ∧ w'.cell? ⟨w.heap.size + 1, 1, none⟩ = some (.int .u64 m) ∧ w'.cell? ⟨w.heap.size + 2, 0, none⟩ = some (.int .u64 m) ∧ w'.cell? ⟨w.heap.size + 2, 1, none⟩ = some (.int .u64 e) :=
          fun w' hq => ⟨cell_below hq p0 (by omega), cell_below hq p1 (by omega), cell_below hq q0 (by omega), cell_below hq q1 (by omega)⟩
        have K4b : ∀ w' : World, (∀ k : Nat, k < W.heap.size → w'.heap[k]? = W.heap[k]?) → w'.cell? ⟨w.heap.size + 1, 0, none⟩ = some (.int .u64 b) ∧ w'.cell? ⟨w.heap.size + 1, 1, none⟩ = some (.int .u64 m) ∧ w'.cell? ⟨w.heap.size + 2, 0, none⟩ = some (.int .u64 m) ∧ w'.cell? ⟨w.heap.size + 2, 1, none⟩ = some (.int .u64 e) :=
          fun w' h => ⟨cell_block (h _ (by omega)) p0, cell_block (h _ (by omega)) p1, cell_block (h _ (by omega)) q0, cell_block (h _ (by omega)) q1⟩
        go_region_held3 (fun w' => w'.cell? ⟨w.heap.size + 1, 0, none⟩ = some (.int .u64 b) ∧ w'.cell? ⟨w.heap.size + 1, 1, none⟩ = some (.int .u64 m) ∧ w'.cell? ⟨w.heap.size + 2, 0, none⟩ = some (.int .u64 m) ∧ w'.cell? ⟨w.heap.size + 2, 1, none⟩ = some (.int .u64 e))
          (first | exact s3 | exact K4 _ (by (repeat (first | assumption | exact Below.refl _ _ | (refine Below.drew ?_) | (refine below_drewN ?_) | (refine Below.alloc ?_ (by first | omega | (simp; omega) | simp) _)))))
          (first
            | (refine step_append_lies _ rfl _ _ 56 rfl w.heap.size 70 i0 (.agg #[.int .u64 0, .int .u64 0]) 2 16 Tryz.underlying56 hi hz0 hz1 hz2 rfl (by decide) v1 _ _ rfl (o1.alloc _) ⟨w1.heap.size, 0, none⟩ 1 1 [.int .u64 m, .int .u64 e] rfl rfl (news_new _ _) (by simp [Value.oneCell']) (by decide) (by unfold maxLen; omega) (by omega) (by first | omega | (simp; omega)) _ rfl ?_; intro g3 cap3 w3 hown3 hgrow3 hat3 hlt3; have hbw3 : Below w.heap.size w w3 := ((hbW.trans (hq.mono (by omega))).alloc (by first | omega | (simp; omega)) _).grown hgrow3 (by first | omega | (simp; omega)) (fun k hk => (o1.lt k hk).1); have s3 := K4b w3 (fun k hk => (hgrow3.block k (by first | omega | (simp; omega)) (fun q => hob k hk q)).trans ((((Below.refl _ w1).alloc (Nat.le_refl _) _).block k (by omega)).trans (hq.block k (by omega)))))
            | (refine step_append_lies _ rfl _ _ 56 rfl w.heap.size 70 i0 (.agg #[.int .u64 0, .int .u64 0]) 2 16 Tryz.underlying56 hi hz0 hz1 hz2 rfl (by decide) v1 _ _ rfl o1 ⟨W.heap.size, 0, none⟩ 1 1 [.int .u64 m, .int .u64 e] rfl rfl (fun j u hu => by rw [addr_add]; exact cell_below bq (cell_new _ _ j u (by simpa using hu)) (by simp)) (by simp [Value.oneCell']) (by decide) (by unfold maxLen; omega) (by omega) (by omega) _ rfl ?_; intro g3 cap3 w3 hown3 hgrow3 hat3 hlt3; have hbw3 : Below w.heap.size w w3 := (hbW.trans (hq.mono (by omega))).grown hgrow3 (by omega) (fun k hk => (o1.lt k hk).1); have s3 := K4b w3 (fun k hk => (hgrow3.block k (by omega) (fun q => hob k hk q)).trans (hq.block k (by omega))))
            | (go_at_call 86; refine (HI.out b m k kn _ (by omega) h0 h1 hkm (by omega) hpw.out.1 HKN.out).mono ?_; rintro ev w1 ⟨v1, rfl, o1, bq⟩; have hq : Below W.heap.size W w1 := Below.trans (by (repeat (first | assumption | exact Below.refl _ _ | (refine Below.drew ?_) | (refine below_drewN ?_) | (refine Below.alloc ?_ (by first | omega | (simp; omega) | simp) _)))) (bq.mono (by simp)); have hob : ∀ k, k < W.heap.size → some k = v1.ownBlock → False := fun k hk q => (by have h1 := (o1.lt k q.symm).1; simp at h1; omega); have o1 : w1.ownsRow w.heap.size 70 2 v1 _ _ := own_mono o1 (by first | omega | (simp; omega)); have hs1 := hq.size))
        all_goals
          go_wp2
          go_ret
          refine ⟨_, rfl, own_congr hown3 ?_ ?_, hbw3⟩
          · rw [HP2.out]; simp
          · rw [HP2.out, spanCells_append]; rfl
      · have HP2 : Hid (proofL (f + 1) (b + k) b e = proofL f (m + (k - t)) m e ++ [(b, m)]) := Lib.hid (by rw [HP.out, if_neg (by omega), show m + (k - t) = b + k by omega])
        have hll := proofL_len f (m + (k - t)) m e
        have hkm : 0 < k - t ∧ k - t ≤ e - m := by omega
        have hm0 : Hid (false = decide (m = 0)) := Lib.hid (by simp; omega)
        have hkt0 : 0 ≤ k - t := by omega
        have hkt1 : k - t < 18446744073709551616 := by omega
        have hkt2 : t < k := by omega
        have hkw : IntKind.u64.wrap (k - t) = k - t := by rw [wrap_u64]; exact Int.emod_eq_of_lt hkt0 hkt1
        go_wp2_with fail
        obtain ⟨W, hW⟩ : ∃ W, ((w.alloc (.cells #[.int .u64 b, .int .u64 e] 70)).alloc (.cells #[.int .u64 b, .int .u64 m] 70)).alloc (.cells #[.int .u64 m, .int .u64 e] 70) = W := ⟨_, rfl⟩
        have hWs : w.heap.size + 3 ≤ W.heap.size := by rw [← hW]; simp
        have hbW : Below w.heap.size w W := by rw [← hW]; exact (((Below.refl _ _).alloc (by simp) _).alloc (by simp) _).alloc (by simp; omega) _
        have p0 : W.cell? ⟨w.heap.size + 1, 0, none⟩ = some (.int .u64 b) := by rw [← hW, show w.heap.size + 1 = (w.alloc (.cells #[.int .u64 b, .int .u64 e] 70)).heap.size by simp]; exact cell_alloc (cell_new #[.int .u64 b, .int .u64 m] 70 0 (.int .u64 b) rfl) _
        have p1 : W.cell? ⟨w.heap.size + 1, 1, none⟩ = some (.int .u64 m) := by rw [← hW, show w.heap.size + 1 = (w.alloc (.cells #[.int .u64 b, .int .u64 e] 70)).heap.size by simp]; exact cell_alloc (cell_new #[.int .u64 b, .int .u64 m] 70 1 (.int .u64 m) rfl) _
        have q0 : W.cell? ⟨w.heap.size + 2, 0, none⟩ = some (.int .u64 m) := by rw [← hW, show w.heap.size + 2 = ((w.alloc (.cells #[.int .u64 b, .int .u64 e] 70)).alloc (.cells #[.int .u64 b, .int .u64 m] 70)).heap.size by simp]; exact cell_new #[.int .u64 m, .int .u64 e] 70 0 (.int .u64 m) rfl
        have q1 : W.cell? ⟨w.heap.size + 2, 1, none⟩ = some (.int .u64 e) := by rw [← hW, show w.heap.size + 2 = ((w.alloc (.cells #[.int .u64 b, .int .u64 e] 70)).alloc (.cells #[.int .u64 b, .int .u64 m] 70)).heap.size by simp]; exact cell_new #[.int .u64 m, .int .u64 e] 70 1 (.int .u64 e) rfl
        rw [hW]
        clear hW
        have K4 : ∀ w' : World, Below W.heap.size W w' → w'.cell? ⟨w.heap.size + 1, 0, none⟩ = some (.int .u64 b) ∧ w'.cell? ⟨w.heap.size + 1, 1, none⟩ = some (.int .u64 m) ∧ w'.cell? ⟨w.heap.size + 2, 0, none⟩ = some (.int .u64 m) ∧ w'.cell? ⟨w.heap.size + 2, 1, none⟩ = some (.int .u64 e) :=
          fun w' hq => ⟨cell_below hq p0 (by omega), cell_below hq p1 (by omega), cell_below hq q0 (by omega), cell_below hq q1 (by omega)⟩
        have K4b : ∀ w' : World, (∀ k : Nat, k < W.heap.size → w'.heap[k]? = W.heap[k]?) → w'.cell? ⟨w.heap.size + 1, 0, none⟩ = some (.int .u64 b) ∧ w'.cell? ⟨w.heap.size + 1, 1, none⟩ = some (.int .u64 m) ∧ w'.cell? ⟨w.heap.size + 2, 0, none⟩ = some (.int .u64 m) ∧ w'.cell? ⟨w.heap.size + 2, 1, none⟩ = some (.int .u64 e) :=
          fun w' h => ⟨cell_block (h _ (by omega)) p0, cell_block (h _ (by omega)) p1, cell_block (h _ (by omega)) q0, cell_block (h _ (by omega)) q1⟩
        go_region_held3 (fun w' => w'.cell? ⟨w.heap.size + 1, 0, none⟩ = some (.int .u64 b) ∧ w'.cell? ⟨w.heap.size + 1, 1, none⟩ = some (.int .u64 m) ∧ w'.cell? ⟨w.heap.size + 2, 0, none⟩ = some (.int .u64 m) ∧ w'.cell? ⟨w.heap.size + 2, 1, none⟩ = some (.int .u64 e))
          (first | exact s3 | exact K4 _ (by (repeat (first | assumption | exact Below.refl _ _ | (refine Below.drew ?_) | (refine below_drewN ?_) | (refine Below.alloc ?_ (by first | omega | (simp; omega) | simp) _)))))
          (first
            | (refine step_append_lies _ rfl _ _ 56 rfl w.heap.size 70 i0 (.agg #[.int .u64 0, .int .u64 0]) 2 16 Tryz.underlying56 hi hz0 hz1 hz2 rfl (by decide) v1 _ _ rfl (o1.alloc _) ⟨w1.heap.size, 0, none⟩ 1 1 [.int .u64 b, .int .u64 m] rfl rfl (news_new _ _) (by simp [Value.oneCell']) (by decide) (by unfold maxLen; omega) (by omega) (by first | omega | (simp; omega)) _ rfl ?_; intro g3 cap3 w3 hown3 hgrow3 hat3 hlt3; have hbw3 : Below w.heap.size w w3 := ((hbW.trans (hq.mono (by omega))).alloc (by first | omega | (simp; omega)) _).grown hgrow3 (by first | omega | (simp; omega)) (fun k hk => (o1.lt k hk).1); have s3 := K4b w3 (fun k hk => (hgrow3.block k (by first | omega | (simp; omega)) (fun q => hob k hk q)).trans ((((Below.refl _ w1).alloc (Nat.le_refl _) _).block k (by omega)).trans (hq.block k (by omega)))))
            | (refine step_append_lies _ rfl _ _ 56 rfl w.heap.size 70 i0 (.agg #[.int .u64 0, .int .u64 0]) 2 16 Tryz.underlying56 hi hz0 hz1 hz2 rfl (by decide) v1 _ _ rfl o1 ⟨W.heap.size, 0, none⟩ 1 1 [.int .u64 b, .int .u64 m] rfl rfl (fun j u hu => by rw [addr_add]; exact cell_below bq (cell_new _ _ j u (by simpa using hu)) (by simp)) (by simp [Value.oneCell']) (by decide) (by unfold maxLen; omega) (by omega) (by omega) _ rfl ?_; intro g3 cap3 w3 hown3 hgrow3 hat3 hlt3; have hbw3 : Below w.heap.size w w3 := (hbW.trans (hq.mono (by omega))).grown hgrow3 (by omega) (fun k hk => (o1.lt k hk).1); have s3 := K4b w3 (fun k hk => (hgrow3.block k (by omega) (fun q => hob k hk q)).trans (hq.block k (by omega))))
            | (go_at_call 86; refine (HI.out m e (k - t) false _ (by omega) (by omega) hkm.1 hkm.2 he hpw.out.2 hm0.out).mono ?_; rintro ev w1 ⟨v1, rfl, o1, bq⟩; have hq : Below W.heap.size W w1 := Below.trans (by (repeat (first | assumption | exact Below.refl _ _ | (refine Below.drew ?_) | (refine below_drewN ?_) | (refine Below.alloc ?_ (by first | omega | (simp; omega) | simp) _)))) (bq.mono (by simp)); have hob : ∀ k, k < W.heap.size → some k = v1.ownBlock → False := fun k hk q => (by have h1 := (o1.lt k q.symm).1; simp at h1; omega); have o1 : w1.ownsRow w.heap.size 70 2 v1 _ _ := own_mono o1 (by first | omega | (simp; omega)); have hs1 := hq.size))
        all_goals
          go_wp2
          go_ret
          refine ⟨_, rfl, own_congr hown3 ?_ ?_, hbw3⟩
          · rw [HP2.out]; simp
          · rw [HP2.out, spanCells_append]; rfl

end Go.Proofs.YtnddjadjmgfgnaaGreatDoor
