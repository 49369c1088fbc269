import Derived.Test.YtdodfeoaioolnaaDoorPartMem
import Derived.Test.YtdodfeoaioolnaaDoorShapeBatch
import Derived.Test.YtdodfeoaioolnaaDoorAppStep
import Derived.Deep.Cut
import Derived.StillTailTactics
/- plan.parts, plan.Path, plan.Proof, plan.Batch: the covers of a list of stretches, in memory of their own. Condition: the table of TrailingZeros64 reads as listed. -/
namespace Go.Proofs.YtdodfeoaioolnaaDoor
open Go.ChangeShapes Go.WideShapes Go.ChangeAt Go.RowKit
set_option linter.unusedVariables false
theorem info_part : (Tryd.prog.info? 58).map (fun i => (i.zero, i.size, i.bytes)) = some (some (.agg #[.slice none 0 0]), 1, 24) := by kernel_rfl
def SpansOk (l : List (Int × Int)) : Prop := ∀ p ∈ l, 0 ≤ p.1 ∧ p.1 ≤ p.2 ∧ p.2 ≤ 9223372036854775808
structure PRel (base : Nat) (l : List (Int × Int)) (w : World) (vl : Value) (k : Nat) (vs : List Value) (wr : World) : Prop where
  own : wr.ownsRow base 58 1 vl k vs
  hold : PHold base wr vs ((l.take k).map coverS)
  ne : ∀ u ∈ vs, ∀ g, u.ownBlock = some g → vl.ownBlock ≠ some g
  below : Below base w wr
theorem PRel.len {base : Nat} {l : List (Int × Int)} {w wr : World} {vl : Value} {k : Nat} {vs : List Value} (h : PRel base l w vl k vs wr) : vs.length = k := by have := h.own.1; omega
theorem PRel.snoc {base : Nat} {l : List (Int × Int)} {w wr w1 w9 : World} {vl v1 : Value} {k g9 cap9 : Nat} {vs : List Value} {p : Int × Int} (h : PRel base l w vl k vs wr) (hp : l[k]? = some p) (hbase : base = w.heap.size) (hb : Below wr.heap.size wr w1)
    (hv : w1.ownsRow wr.heap.size 80 2 v1 (coverS p).length (coordCells (coverS p))) (ho : w9.ownsRow base 58 1 (.slice (some ⟨g9, 0, none⟩) (k + 1) cap9) (k + 1) (vs ++ [v1])) (hg : w1.grownBy w9 vl.ownBlock) (hat : vl.ownBlock = some g9 ∨ g9 = w1.heap.size) :
    PRel base l w (.slice (some ⟨g9, 0, none⟩) (k + 1) cap9) (k + 1) (vs ++ [v1]) w9 := by
  have hbs := h.below.size
  have hb1 := hb.size
  have hvl : ∀ g, v1.ownBlock = some g → vl.ownBlock ≠ some g := fun g hg1 hg2 => by
    have := (hv.lt g hg1).1
    have := (h.own.lt g hg2).2
    omega
  refine ⟨ho, ?_, ?_, ?_⟩
  · have e1 : l.take (k + 1) = l.take k ++ [p] := by rw [List.take_add_one, hp]; rfl
    rw [e1, List.map_append, List.map_singleton]
    exact h.hold.snoc hb hv (by omega) hg h.ne hvl
  · intro u hu g hgu q
    simp only [Value.ownBlock, Option.some.injEq] at q
    subst q
    rcases List.mem_append.1 hu with hu | hu
    · rcases hat with q | q
      · exact h.ne u hu g9 hgu q
      · have := (h.hold.lt hu hgu).2; omega
    · simp only [List.mem_singleton] at hu
      subst hu
      rcases hat with q | q
      · exact hvl g9 hgu q
      · have := (hv.lt g9 hgu).2; omega
  · refine h.below.trans ⟨?_, ?_, ?_, ?_, ?_⟩
    · exact hg.os.trans hb.os
    · exact hg.tape.trans hb.tape
    · exact hg.output.trans hb.output
    · have := hg.size; omega
    · intro j hj
      rw [hg.block j (by omega) (fun q => by have := (h.own.lt j q.symm).1; omega), hb.block j (by omega)]
set_option maxRecDepth 100000 in
set_option maxHeartbeats 4000000 in
theorem parts_ok (l : List (Int × Int)) (v : Value) (w : World) (hT : TzTab w) (hng : 19 ≤ w.heap.size) (hR : Rd w v 2 l.length (spanCells l)) (hl : SpansOk l) (hn : l.length ≤ 1000) :
    Calls Tryd.prog 40 #[v, .nilIface] w (PartsPost w (l.map coverS)) := by
  obtain ⟨i0, hi, hz0, hz1, hz2⟩ := info_parts info_part
  obtain ⟨_, A, cap, rfl, hRc⟩ := hR
  obtain ⟨n, hnn⟩ : ∃ n, l.length = n := ⟨_, rfl⟩
  rw [hnn] at hRc hn ⊢
  have HN := Lib.hid hnn
  have HR := Lib.hid hRc
  have HL := Lib.hid hl
  have HT := Lib.hid (And.intro hT hng)
  clear hnn hRc hl hT hng
  go_enter Tryd.func40, Tryd.ntmps40
  go_wp2
  go_loopw [6, 16] (fun vl i wr => ∃ (k : Nat) (vs : List Value), k ≤ n ∧ i = .int .i64 k ∧ Hid (PRel w.heap.size l w vl k vs wr)) (fun _ i _ => n - (intOf i).toNat)
  case atStart => exact ⟨0, [], Nat.zero_le _, rfl, Lib.hid ⟨World.ownsRow_nil _ _ _ _, PHold.nil _ _, fun u hu => by simp at hu, Below.refl _ _⟩⟩
  case round =>
    obtain ⟨k, vs, hk, rfl, HP⟩ := hrel
    by_cases hlt : k < n
    · obtain ⟨g1, rfl, hc1⟩ : ∃ g, A = some ⟨g, 0, none⟩ ∧ ∀ j u, (spanCells l)[j]? = some u → w.cell? ⟨g, j, none⟩ = some u := by
        rcases HR.out with q | q
        · omega
        · exact q
      obtain ⟨p, hp⟩ : ∃ p, l[k]? = some p := ⟨_, List.getElem?_eq_getElem (by have := HN.out; omega)⟩
      have hat := spanCells_at l k p hp
      have hbw := HP.out.below
      have a1 := cell_below hbw (hc1 _ _ hat.1) (block_of_cell (hc1 _ _ hat.1))
      have a2 := cell_below hbw (hc1 _ _ hat.2) (block_of_cell (hc1 _ _ hat.2))
      have hpk := HL.out p (List.mem_of_getElem? hp)
      have HPP := Lib.hid hp
      have HTW : Hid (TzTab (wr.alloc (.cells #[.int .u64 p.1, .int .u64 p.2] 93)) ∧ 19 ≤ (wr.alloc (.cells #[.int .u64 p.1, .int .u64 p.2] 93)).heap.size) := Lib.hid ⟨(HT.out.1.below hbw HT.out.2).below (B := w.heap.size) ((Below.refl _ _).alloc hbw.size _) HT.out.2, by have := HT.out.2; have := hbw.size; simp; omega⟩
      obtain ⟨x, hx⟩ : ∃ x, p.1 = x := ⟨_, rfl⟩
      obtain ⟨y, hy⟩ : ∃ y, p.2 = y := ⟨_, rfl⟩
      have HXY : Hid (coverL 128 x.toNat y.toNat = coverS p ∧ (x, y) = p) := Lib.hid ⟨by rw [← hx, ← hy]; rfl, by rw [← hx, ← hy]⟩
      rw [hx, hy] at HTW
      rw [hx] at a1 hpk
      rw [hy] at a2 hpk
      have i0' : (0 : Int) ≤ k := by omega
      have i1 : (k : Int) < n := by omega
      clear hat hc1 hp hbw hx hy
      go_wp2_with fail
      refine (cover_ok x y _ HTW.out.1 HTW.out.2 hpk.1 hpk.2.1 hpk.2.2).mono ?_
      rintro ev w1 ⟨v1, rfl, o1, b1⟩
      rw [HXY.out.1] at o1
      obtain ⟨A7, c7, rfl, _⟩ := own_shape o1
      obtain ⟨v1, hv1⟩ : ∃ v1 : Value, .slice A7 (coverS p).length c7 = v1 := ⟨_, rfl⟩
      obtain ⟨m1, hm1⟩ : ∃ m1, (coverS p).length = m1 := ⟨_, rfl⟩
      have HV1 : Hid (v1 = .slice A7 m1 c7) := Lib.hid (by rw [← hv1, hm1])
      rw [hv1] at o1
      rw [hm1]
      clear hv1 hm1
      have hB1 : Hid (Below wr.heap.size wr w1) := Lib.hid (((Below.refl _ _).alloc (Nat.le_refl _) _).trans (b1.mono (by simp)))
      have HO1 : Hid (w1.ownsRow wr.heap.size 80 2 v1 (coverS p).length (coordCells (coverS p))) := Lib.hid (own_mono o1 (by simp))
      have hown := own_below HP.out.own hB1.out (Nat.le_refl _)
      have hsb : w.heap.size ≤ w1.heap.size := by have := HP.out.below.size; have := hB1.out.size; omega
      clear b1 o1
      have hown2 := hown.alloc (.cells #[.slice A7 m1 c7] 58)
      have HPR : Hid (∀ (w9 : World) (g9 cap9 : Nat), w9.ownsRow w.heap.size 58 1 (.slice (some ⟨g9, 0, none⟩) (k + 1) cap9) (k + 1) (vs ++ [.slice A7 m1 c7]) → (w1.alloc (.cells #[.slice A7 m1 c7] 58)).grownBy w9 u6.ownBlock → (u6.ownBlock = some g9 ∨ g9 = (w1.alloc (.cells #[.slice A7 m1 c7] 58)).heap.size) → PRel w.heap.size l w (.slice (some ⟨g9, 0, none⟩) (k + 1) cap9) (k + 1) (vs ++ [.slice A7 m1 c7]) w9) := Lib.hid (fun w9 g9 cap9 ho hg hat => by
        rw [← HV1.out] at ho hg hat ⊢
        exact HP.out.snoc HPP.out rfl (hB1.out.alloc (by have := hB1.out.size; omega) _) (HO1.out.alloc _) ho hg hat)
      clear hown
      go_wp2_with (at_builtin; go_loud (refine wpList_append_lies _ rfl _ _ 42 rfl w.heap.size 58 i0 (.agg #[.slice none 0 0]) 1 24 Tryd.underlying42 hi hz0 hz1 hz2 rfl (by decide) u6 _ _ rfl hown2 ⟨w1.heap.size, 0, none⟩ 1 1 _ rfl rfl (news_new _ _) (by simp [Value.oneCell']) (by decide) (by unfold maxLen; omega) (by omega) (by simp; omega) _ rfl ?_; intro g9 cap9 w9 hown9 hgrow9 hat9 hlt9))
      have HF := Lib.hid (HPR.out w9 g9 cap9 hown9 hgrow9 hat9)
      clear hown9 hgrow9 hat9 hlt9 hown2
      go_roundw
      case rel => exact ⟨k + 1, vs ++ [.slice A7 m1 c7], by omega, by go_num, HF⟩
      case measure => simp [intOf]; omega
    · obtain rfl : k = n := by omega
      have h := HP.out
      have e : l.take k = l := List.take_of_length_le (by have := HN.out; omega)
      have HFIN : Hid (PartsPost w (l.map coverS) (.returned (.tuple #[u6, .nilIface])) wr) := Lib.hid ⟨u6, vs, rfl, own_congr h.own (by rw [List.length_map, HN.out]) rfl, e ▸ h.hold, h.ne, h.below⟩
      clear h
      go_wp2
      refine bodyPost_ret (v := .tuple #[u6, .nilIface]) (by simp [results, Tryd.results40, go_sem]) rfl HFIN.out
end Go.Proofs.YtdodfeoaioolnaaDoor

/- plan.Path, plan.Proof, plan.Batch, plan.Root. Condition: the package-level variables read as listed. -/
namespace Go.Proofs.YtdodfeoaioolnaaDoor
open Go.ChangeShapes Go.WideShapes Go.ChangeAt Go.RowKit
set_option linter.unusedVariables false
theorem PHold.mono {base base' : Nat} {w : World} {vs : List Value} {ps : List (List (Nat × Nat))} (h : PHold base w vs ps) (hb : base' ≤ base) : PHold base' w vs ps := ⟨h.len, fun i v p hv hp => own_mono (h.own i v p hv hp) hb, h.apart⟩
theorem PartsPost.mono {w w1 : World} {ps : List (List (Nat × Nat))} {ev : Ending} {w' : World} (h : PartsPost w1 ps ev w') (hb : Below w.heap.size w w1) : PartsPost w ps ev w' := by
  obtain ⟨v, vs, h1, h2, h3, h4, h5⟩ := h
  exact ⟨v, vs, h1, own_mono h2 hb.size, h3.mono hb.size, h4, hb.trans (h5.mono hb.size)⟩
theorem parts_fail (a : Nat → Addr) (w : World) : Calls Tryd.prog 40 #[.slice none 0 0, errV a 5] w (FailPost (errV a 5) w) := by
  unfold errV
  go_enter Tryd.func40, Tryd.ntmps40
  go_wp2
  refine bodyPost_ret (v := .tuple #[.slice none 0 0, errV a 5]) (by simp [results, Tryd.results40, go_sem, errV]) rfl ⟨rfl, Below.refl _ _⟩
theorem spans_ok {l : List (Int × Int)} {sz : Int} (h : SpansIn l sz) (h2 : sz ≤ 9223372036854775808) : SpansOk l := fun p hp => by have := h p hp; omega
set_option maxRecDepth 100000 in
theorem plan_path_ok (ix sz : Int) (w : World) (hT : TzTab w) (hng : 19 ≤ w.heap.size) (h0 : 0 ≤ ix) (h1 : ix < sz) (h2 : sz ≤ 9223372036854775808) :
    Calls Tryd.prog 14 #[.int .u64 ix, .int .u64 sz] w (PartsPost w ((pathL 64 ix 0 sz).map coverS)) := by
  have hok := path_ok ix sz w h0 h1 h2
  have hso := spans_ok (path_spansIn ix sz h0 h1 h2) h2
  have hle : (pathL 64 ix 0 sz).length ≤ 1000 := by have := pathL_len 64 ix 0 sz; omega
  obtain ⟨L, hL⟩ : ∃ L, pathL 64 ix 0 sz = L := ⟨_, rfl⟩
  rw [hL] at hok hso hle ⊢
  have HT := Lib.hid (And.intro hT hng)
  clear hL hT hng
  go_enter Tryd.func14, Tryd.ntmps14
  go_wp2_with fail
  refine hok.mono ?_
  rintro ev w1 ⟨v1, rfl, o1, b1⟩
  have HB := Lib.hid b1
  have HO := Lib.hid o1
  clear b1 o1
  go_wp2_with fail
  refine (parts_ok L v1 w1 (HT.out.1.below HB.out HT.out.2) (by have := HT.out.2; have := HB.out.size; omega) (rd_own HO.out) hso hle).mono ?_
  intro ev w2 hp
  obtain ⟨v2, vs2, rfl, r⟩ := hp
  have HR : Hid (PartsPost w (L.map coverS) (.returned (.tuple #[v2, .nilIface])) w2) := Lib.hid (PartsPost.mono ⟨v2, vs2, rfl, r⟩ HB.out)
  clear r
  go_wp2
  refine bodyPost_ret (v := .tuple #[v2, .nilIface]) (by simp [results, Tryd.results14, go_sem]) rfl HR.out
set_option maxRecDepth 100000 in
theorem plan_path_fail (a : Nat → Addr) (B : Nat) (ix sz : Int) (w : World) (hL : Laid B a w) (b0 : 0 ≤ ix) (b1 : ix < 18446744073709551616) (b2 : 0 ≤ sz) (b3 : sz < 18446744073709551616) (h : 9223372036854775808 < sz ∨ sz ≤ ix) :
    Calls Tryd.prog 14 #[.int .u64 ix, .int .u64 sz] w (FailPost (errV a 5) w) := by
  have HL := Lib.hid hL
  clear hL
  have hbad := path_fail a B ix sz w HL.out b0 b1 b2 b3 h
  clear b0 b1 b2 b3 h
  go_enter Tryd.func14, Tryd.ntmps14
  go_wp2_with fail
  refine hbad.mono ?_
  rintro ev w1 ⟨rfl, b1⟩
  go_wp2_with fail
  refine (parts_fail a w1).mono ?_
  rintro ev w2 ⟨rfl, b2⟩
  have HB : Hid (Below w.heap.size w w2) := Lib.hid (b1.trans (b2.mono b1.size))
  clear b1 b2
  go_wp2
  refine bodyPost_ret (v := .tuple #[.slice none 0 0, errV a 5]) (by simp [results, Tryd.results14, go_sem, errV]) rfl ⟨rfl, HB.out⟩
set_option maxRecDepth 100000 in
theorem plan_proof_ok (ix sz : Int) (w : World) (hT : TzTab w) (hng : 19 ≤ w.heap.size) (h0 : 0 < ix) (h1 : ix ≤ sz) (h2 : sz ≤ 9223372036854775808) :
    Calls Tryd.prog 16 #[.int .u64 ix, .int .u64 sz] w (PartsPost w ((proofL 64 ix 0 sz).map coverS)) := by
  have hok := proof_ok ix sz w h0 h1 h2
  have hso := spans_ok (proof_spansIn ix sz h0 h1 h2) h2
  have hle : (proofL 64 ix 0 sz).length ≤ 1000 := by have := proofL_len 64 ix 0 sz; omega
  obtain ⟨L, hL⟩ : ∃ L, proofL 64 ix 0 sz = L := ⟨_, rfl⟩
  rw [hL] at hok hso hle ⊢
  have HT := Lib.hid (And.intro hT hng)
  clear hL hT hng
  go_enter Tryd.func16, Tryd.ntmps16
  go_wp2_with fail
  refine hok.mono ?_
  rintro ev w1 ⟨v1, rfl, o1, b1⟩
  have HB := Lib.hid b1
  have HO := Lib.hid o1
  clear b1 o1
  go_wp2_with fail
  refine (parts_ok L v1 w1 (HT.out.1.below HB.out HT.out.2) (by have := HT.out.2; have := HB.out.size; omega) (rd_own HO.out) hso hle).mono ?_
  intro ev w2 hp
  obtain ⟨v2, vs2, rfl, r⟩ := hp
  have HR : Hid (PartsPost w (L.map coverS) (.returned (.tuple #[v2, .nilIface])) w2) := Lib.hid (PartsPost.mono ⟨v2, vs2, rfl, r⟩ HB.out)
  clear r
  go_wp2
  refine bodyPost_ret (v := .tuple #[v2, .nilIface]) (by simp [results, Tryd.results16, go_sem]) rfl HR.out
set_option maxRecDepth 100000 in
theorem plan_proof_fail (a : Nat → Addr) (B : Nat) (ix sz : Int) (w : World) (hL : Laid B a w) (b0 : 0 ≤ ix) (b1 : ix < 18446744073709551616) (b2 : 0 ≤ sz) (b3 : sz < 18446744073709551616) (h : 9223372036854775808 < sz ∨ ix = 0 ∨ sz < ix) :
    Calls Tryd.prog 16 #[.int .u64 ix, .int .u64 sz] w (FailPost (errV a 5) w) := by
  have HL := Lib.hid hL
  clear hL
  have hbad := proof_fail a B ix sz w HL.out b0 b1 b2 b3 h
  clear b0 b1 b2 b3 h
  go_enter Tryd.func16, Tryd.ntmps16
  go_wp2_with fail
  refine hbad.mono ?_
  rintro ev w1 ⟨rfl, b1⟩
  go_wp2_with fail
  refine (parts_fail a w1).mono ?_
  rintro ev w2 ⟨rfl, b2⟩
  have HB : Hid (Below w.heap.size w w2) := Lib.hid (b1.trans (b2.mono b1.size))
  clear b1 b2
  go_wp2
  refine bodyPost_ret (v := .tuple #[.slice none 0 0, errV a 5]) (by simp [results, Tryd.results16, go_sem, errV]) rfl ⟨rfl, HB.out⟩
set_option maxRecDepth 100000 in
theorem plan_batch_ok (x y sz : Int) (w : World) (hT : TzTab w) (hng : 19 ≤ w.heap.size) (h0 : 0 ≤ x) (h1 : x < y) (h3 : y ≤ sz) (h2 : sz ≤ 9223372036854775808) :
    Calls Tryd.prog 21 #[.int .u64 x, .int .u64 y, .int .u64 sz] w (PartsPost w ((batchL 64 x y 0 sz).map coverS)) := by
  have hok := batch_ok x y sz w h0 h1 h3 h2
  have hso := spans_ok (batch_spansIn x y sz h0 h1 h3 h2) h2
  have hle : (batchL 64 x y 0 sz).length ≤ 1000 := by have := batchL_len 64 x y 0 sz (by omega) (by rw [pow2_64]; omega); omega
  obtain ⟨L, hL⟩ : ∃ L, batchL 64 x y 0 sz = L := ⟨_, rfl⟩
  rw [hL] at hok hso hle ⊢
  have HT := Lib.hid (And.intro hT hng)
  clear hL hT hng
  go_enter Tryd.func21, Tryd.ntmps21
  go_wp2_with fail
  refine hok.mono ?_
  rintro ev w1 ⟨v1, rfl, o1, b1⟩
  have HB := Lib.hid b1
  have HO := Lib.hid o1
  clear b1 o1
  go_wp2_with fail
  refine (parts_ok L v1 w1 (HT.out.1.below HB.out HT.out.2) (by have := HT.out.2; have := HB.out.size; omega) (rd_own HO.out) hso hle).mono ?_
  intro ev w2 hp
  obtain ⟨v2, vs2, rfl, r⟩ := hp
  have HR : Hid (PartsPost w (L.map coverS) (.returned (.tuple #[v2, .nilIface])) w2) := Lib.hid (PartsPost.mono ⟨v2, vs2, rfl, r⟩ HB.out)
  clear r
  go_wp2
  refine bodyPost_ret (v := .tuple #[v2, .nilIface]) (by simp [results, Tryd.results21, go_sem]) rfl HR.out
set_option maxRecDepth 100000 in
theorem plan_batch_fail (a : Nat → Addr) (B : Nat) (x y sz : Int) (w : World) (hL : Laid B a w) (b0 : 0 ≤ x) (b1 : x < 18446744073709551616) (b2 : 0 ≤ y) (b3 : y < 18446744073709551616) (b4 : 0 ≤ sz) (b5 : sz < 18446744073709551616) (h : 9223372036854775808 < sz ∨ sz < y ∨ y ≤ x) :
    Calls Tryd.prog 21 #[.int .u64 x, .int .u64 y, .int .u64 sz] w (FailPost (errV a 5) w) := by
  have HL := Lib.hid hL
  clear hL
  have hbad := batch_fail a B x y sz w HL.out b0 b1 b2 b3 b4 b5 h
  clear b0 b1 b2 b3 h
  go_enter Tryd.func21, Tryd.ntmps21
  go_wp2_with fail
  refine hbad.mono ?_
  rintro ev w1 ⟨rfl, b1⟩
  go_wp2_with fail
  refine (parts_fail a w1).mono ?_
  rintro ev w2 ⟨rfl, b2⟩
  have HB : Hid (Below w.heap.size w w2) := Lib.hid (b1.trans (b2.mono b1.size))
  clear b1 b2
  go_wp2
  refine bodyPost_ret (v := .tuple #[.slice none 0 0, errV a 5]) (by simp [results, Tryd.results21, go_sem, errV]) rfl ⟨rfl, HB.out⟩
end Go.Proofs.YtdodfeoaioolnaaDoor

