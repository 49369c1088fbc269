import Derived.Test.YtnpblpbcchminaaGreatDoorKbShaBlock
import Derived.Test.YtnpblpbcchminaaGreatDoorKbShaDig
import Derived.Deep.RegionLaw
/- sha.Digest.Write: some bytes more. Condition: the table reads as listed. -/
namespace Go.Proofs.YtnpblpbcchminaaGreatDoor
open Go.ChangeShapes Go.WideShapes Go.ChangeAt Go.RowKit
set_option linter.unusedVariables false
def WriteS (D hb : Nat) (rv : Value) (k : Nat) : Prop := k = D ∨ k = hb ∨ rv.ownBlock = some k
theorem info_u8 : (Tryz.prog.info? 5).map (fun i => (i.zero, i.size, i.bytes)) = some (some (.int .u8 0), 1, 1) := by kernel_rfl
set_option maxRecDepth 100000 in
set_option maxHeartbeats 4000000 in
theorem write_empty (base D hb gb o cap q : Nat) (xs ys done : List UInt8) (rvL : Value) (w : World) (hD : DigAt base D hb w xs q done [] rvL) (hy : w.rangeAt gb o (bytesV ys)) (hyc : ys.length ≤ cap) (hcap : cap ≤ 9223372036854775807)
    (hgD : gb ≠ D) (hgH : gb ≠ hb) (hgr : rvL.ownBlock ≠ some gb) (hbase : base ≤ w.heap.size) (htot : xs.length + ys.length ≤ 18446744073709550000) (hK : KTab 17 w) (hKb : 17 < base) :
    Calls Tryz.prog 186 #[.pointer (some ⟨D, 0, none⟩), .slice (some ⟨gb, o, none⟩) ys.length cap] w fun ev w' => ev = .returned (.tuple #[]) ∧ (∃ q' done' rest' rv', DigAt base D hb w' (xs ++ ys) q' done' rest' rv') ∧ Below base w w' := by
  obtain ⟨rA, rcap, hrv, hrc⟩ := own_shape hD.own
  simp only [List.length_nil] at hrv
  have HY := Lib.hid hy
  have HK := Lib.hid hK
  have HSg : Hid (¬ WriteS D hb rvL gb) := Lib.hid (by
    rintro (q | q | q)
    · exact hgD q
    · exact hgH q
    · exact hgr q)
  have HSk : Hid (¬ WriteS D hb rvL 17) := Lib.hid (by
    rintro (q | q | q)
    · have := hD.baseD; omega
    · have := hD.baseH; omega
    · have := (hD.own.lt _ q).1; omega)
  have HOw : Hid (w.ownsRow base 5 1 rvL 0 []) := Lib.hid hD.own
  have d0 := hD.dg.c0
  have d1 := hD.dg.c1
  have d2 := hD.dg.c2
  have f2 := hD.dg.fr 2
  have f1 := hD.dg.fr 1
  have HDD := Lib.hid hD
  have HFar := Lib.hid hD.far
  have HH1 : Hid (∀ k, WriteS D hb rvL k → base ≤ k) := Lib.hid (by
    rintro k (q | q | q)
    · rw [q]; exact hD.baseD
    · rw [q]; exact hD.baseH
    · exact (hD.own.lt k q).1)
  have HLB : Hid (∀ i, i < w.heap.size → rvL.ownBlock = some i → WriteS D hb rvL i) := Lib.hid (fun i _ h => Or.inr (Or.inr h))
  have HBas := Lib.hid (And.intro hD.baseD hD.baseH)
  obtain ⟨nx, hnx⟩ : ∃ nx : Int, (xs.length : Int) = nx := ⟨_, rfl⟩
  obtain ⟨ny, hny⟩ : ∃ ny : Nat, ys.length = ny := ⟨_, rfl⟩
  have b1 : 0 ≤ nx := by omega
  have b2 : nx + ny ≤ 18446744073709550000 := by omega
  rw [hny] at hyc ⊢
  rw [hnx] at d2
  have HNX := Lib.hid hnx
  have HNY := Lib.hid hny
  have HRV := Lib.hid hrv
  subst hrv
  clear hD hy hK hgD hgH hgr hnx hny htot
  go_enter Tryz.func186, Tryz.ntmps186
  go_wp2
  go_loopw [1] (fun b wr => ∃ (j m q1 cap1 oo : Nat) (done1 : List UInt8), Hid (m + j = ys.length) ∧ b = .slice (some ⟨gb, oo, none⟩) m cap1 ∧ m ≤ cap1 ∧ cap1 ≤ 9223372036854775807 ∧ Hid (0 < m → oo = o + j) ∧ Hid (Dg D hb wr (.slice rA 0 rcap) (nx + ny) (blks q1 shaH0 done1)) ∧ Hid (done1.length = 64 * q1 ∧ done1 ++ ys.drop j = xs ++ ys) ∧ Hid (wr.ownsRow base 5 1 (.slice rA 0 rcap) 0 []) ∧ Hid (But (WriteS D hb (.slice rA 0 rcap)) w wr)) (fun b _ => match b with | .slice _ m _ => m | _ => 0)
  case atStart => exact ⟨0, ny, q, cap, o, done, Lib.hid (by rw [HNY.out]; rfl), rfl, hyc, hcap, Lib.hid (fun _ => rfl), Lib.hid (by have h := HDD.out.dg; rw [HNX.out] at h; exact h.set2 _), Lib.hid ⟨HDD.out.len, by rw [List.drop_zero]; have h := HDD.out.all; rw [List.append_nil] at h; rw [← h]⟩, Lib.hid (own_but HOw.out (but_setCell w D 2 _) (fun k h q => HDD.out.far.1 (by rw [h, q]))), Lib.hid ((but_setCell w D 2 _).mono (fun _ _ q => Or.inl q))⟩
  case round =>
    obtain ⟨j, m, q1, cap1, oo, done1, HM, rfl, hmc, hcc, HA, HD, HDN, HO, HB⟩ := hrel
    by_cases hlt : 64 ≤ m
    · 
      have i1 : (64 : Int) ≤ m := by omega
      have i2 : (64 : Int) ≤ cap1 := by omega
      have i3 : (m : Int) ≤ cap1 := by omega
      have hoo := HA.out (by omega)
      have d0 := HD.out.c0
      have HR : Hid (wr.rangeAt gb oo (bytesV ((ys.drop j).take 64))) := Lib.hid (by
        rw [bytesV_take, bytesV_drop, hoo]
        refine rangeAt_sub (fun t v ht => HB.out.cell (HY.out t v ht) ?_) j 64
        exact HSg.out)
      have HOO := Lib.hid hoo
      clear hoo
      have HL : Hid (((ys.drop j).take 64).length = 64) := Lib.hid (by rw [List.length_take, List.length_drop]; have := HM.out; omega)
      have HKw : Hid (KTab 17 wr) := Lib.hid (HK.out.but HB.out HSk.out)
      have HSn : Hid (blkL (blks q1 shaH0 done1) ((ys.drop j).take 64) = blks (q1 + 1) shaH0 (done1 ++ (ys.drop j).take 64)) := Lib.hid (blks_snoc _ _ _ _ HDN.out.1 HL.out).symm
      have HDn2 : Hid ((done1 ++ (ys.drop j).take 64).length = 64 * (q1 + 1) ∧ (done1 ++ (ys.drop j).take 64) ++ ys.drop (j + 64) = xs ++ ys) := Lib.hid ⟨by rw [List.length_append, HDN.out.1, HL.out]; omega, by rw [← HDN.out.2, List.append_assoc, ← List.drop_drop, List.take_append_drop]⟩
      rcases (by omega : cap1 = 64 ∨ 64 < cap1) with rfl | hc
      all_goals
        go_wp2
        go_region_with (go_at_call 208; refine (block_any hb gb oo 64 _ _ ((ys.drop j).take 64) _ (HD.out.words.drewN 1) (blks_length _ _ _ rfl) HR.out HL.out (by omega) (by omega) (by omega) HKw.out).mono ?_; rintro ev w' ⟨rfl, hw', hb'⟩)
        all_goals
          have hb' := ((But.refl (· = hb) wr).drewN 1).trans hb'
          have HD2 := Lib.hid (HD.out.block (hw'.congr HSn.out) hb')
          have HO2 := Lib.hid (own_but HO.out hb' (fun k hk (q : k = hb) => HFar.out.2 (by rw [hk, q])))
          have HB2 := Lib.hid (HB.out.step hb' (fun _ _ q => Or.inr (Or.inl q)))
          clear hw' hb'
          go_wp2
          go_roundw
          case rel =>
            first
              | exact ⟨j + 64, m - 64, q1 + 1, _, _, _, Lib.hid (by have := HM.out; omega), rfl, by omega, by omega, Lib.hid (fun h => by have := HOO.out; omega), HD2, HDn2, HO2, HB2⟩
              | exact ⟨j + 64, 0, q1 + 1, 0, oo, _, Lib.hid (by have := HM.out; omega), rfl, by omega, by omega, Lib.hid (fun h => by omega), HD2, HDn2, HO2, HB2⟩
          case measure => simp; omega
      
    · have i1 : (m : Int) < 64 := by omega
      have d1 := HD.out.c1
      have f1 := HD.out.fr 1
      have hDlt := HD.out.lt.1
      have hbw := HB.out.size
      have HR : Hid (wr.rangeAt gb oo (bytesV (ys.drop j))) := Lib.hid (by
        by_cases hm : 0 < m
        · rw [HA.out hm, bytesV_drop]
          have h := rangeAt_sub (w := wr) (b := gb) (o := o) (cs := bytesV ys) (fun t v ht => HB.out.cell (HY.out t v ht) HSg.out) j ys.length
          rwa [List.take_of_length_le (by rw [List.length_drop, bytesV_length]; omega)] at h
        · rw [List.drop_of_length_le (by have := HM.out; omega)]; intro t v ht; simp [bytesV] at ht)
      have HLn : Hid ((bytesV (ys.drop j)).length = m * 1) := Lib.hid (by rw [bytesV_length, List.length_drop]; have := HM.out; omega)
      obtain ⟨i0, hi, hz0, hz1, hz2⟩ := info_parts info_u8
      go_wp2_with ((at_builtin; refine wpList_append_shape rfl (.tmp 92) (.tmp 93) 138 rfl base 5 i0 (.int .u8 0) 1 1 Tryz.underlying138 hi hz0 hz1 hz2 rfl (by decide) (.slice rA 0 rcap) 0 [] rfl HO.out ⟨gb, oo, none⟩ m cap1 (bytesV (ys.drop j)) rfl HLn.out (range_add HR.out) (bytesV_one _) (by unfold maxLen; omega) (by omega) (by omega) ?_; intro A9 cap9 w3 hown3 hgrow3 hat3; have e1 := (hgrow3.block D (by omega) (fun e => HFar.out.1 e.symm)); have d1' := cell_block e1 d1; have f1' := frozen_block e1 f1; have hD3 := block_of_cell d1'))
      go_end0
      have h1 := HH1.out
      have hbut : But (WriteS D hb (.slice rA 0 rcap)) w (w3.setCell ⟨D, 1, none⟩ (.slice A9 m cap9)) := (HB.out.grown hgrow3 (fun r hr hlt => HLB.out r hlt hr)).setCell D 1 _ (fun _ => Or.inl rfl)
      have hown : w3.ownsRow base 5 1 (.slice A9 m cap9) m (bytesV (ys.drop j)) := by have h := hown3; rw [Nat.zero_add, List.nil_append] at h; exact h
      have hne : ∀ k, k < wr.heap.size → ((.slice rA 0 rcap) : Value).ownBlock ≠ some k → (Value.slice A9 m cap9).ownBlock ≠ some k := by
        intro k hk hn q
        have h := hat3
        rw [Nat.zero_add] at h
        rcases h with h | h
        · exact hn (h.symm.trans q)
        · rw [h] at q; injection q with q; omega
      have hD3 : Dg D hb w3 (.slice rA 0 rcap) (nx + ny) (blks q1 shaH0 done1) := HD.out.but (S := fun k => ((.slice rA 0 rcap) : Value).ownBlock = some k) ⟨hgrow3.os, hgrow3.tape, hgrow3.output, hgrow3.size, fun k hk hn => hgrow3.block k hk (fun e => hn e.symm)⟩ HFar.out.1 HFar.out.2
      have hmj := HM.out
      have hlen : (ys.drop j).length = m := by rw [List.length_drop]; omega
      refine ⟨rfl, ⟨q1, done1, ys.drop j, .slice A9 m cap9, ⟨HDN.out.2.symm, HDN.out.1, by rw [hlen]; omega, ?_, ?_, ⟨hne D hDlt HFar.out.1, hne hb HD.out.lt.2 HFar.out.2⟩, HBas.out.1, HBas.out.2⟩⟩, hbut.to_below hbase (fun k hk q => by have := h1 k q; omega)⟩
      · have h := hD3.set1 (.slice A9 m cap9)
        rw [← HNX.out, ← HNY.out] at h
        rw [List.length_append]
        exact h
      · rw [hlen]
        exact own_but hown (but_setCell w3 D 1 _) (fun k hk (q : k = D) => hne D hDlt HFar.out.1 (by rw [hk, q]))

set_option maxRecDepth 100000 in
set_option maxHeartbeats 4000000 in
theorem write_short (base D hb gb o cap q r : Nat) (xs ys done rest : List UInt8) (rv : Value) (w : World) (hD : DigAt base D hb w xs q done rest rv) (hr : rest.length = r) (hr0 : 0 < r) (hy : w.rangeAt gb o (bytesV ys)) (hyc : ys.length ≤ cap) (hcap : cap ≤ 9223372036854775807)
    (hgD : gb ≠ D) (hgH : gb ≠ hb) (hgr : rv.ownBlock ≠ some gb) (hbase : base ≤ w.heap.size) (htot : xs.length + ys.length ≤ 18446744073709550000) (hK : KTab 17 w) (hKb : 17 < base) (hpath : r + ys.length < 64) :
    Calls Tryz.prog 186 #[.pointer (some ⟨D, 0, none⟩), .slice (some ⟨gb, o, none⟩) ys.length cap] w fun ev w' => ev = .returned (.tuple #[]) ∧ (∃ q' done' rest' rv', DigAt base D hb w' (xs ++ ys) q' done' rest' rv') ∧ Below base w w' := by
  obtain ⟨rA, rcap, hrv, hrc⟩ := own_shape hD.own
  have hr64 : r < 64 := by have := hD.short; omega
  have HY := Lib.hid hy
  have HK := Lib.hid hK
  have HSg : Hid (¬ WriteS D hb rv gb) := Lib.hid (by
    rintro (q | q | q)
    · exact hgD q
    · exact hgH q
    · exact hgr q)
  have HSk : Hid (¬ WriteS D hb rv 17) := Lib.hid (by
    rintro (q | q | q)
    · have := hD.baseD; omega
    · have := hD.baseH; omega
    · have := (hD.own.lt _ q).1; omega)
  have d0 := hD.dg.c0
  have d1 := hD.dg.c1
  have d2 := hD.dg.c2
  have f2 := hD.dg.fr 2
  have f1 := hD.dg.fr 1
  have HDD := Lib.hid hD
  have HFar0 := Lib.hid hD.far
  have HBas := Lib.hid (And.intro hD.baseD hD.baseH)
  have HH1 : Hid (∀ k, WriteS D hb rv k → base ≤ k) := Lib.hid (by
    rintro k (q | q | q)
    · rw [q]; exact hD.baseD
    · rw [q]; exact hD.baseH
    · exact (hD.own.lt k q).1)
  have HOw : Hid (w.ownsRow base 5 1 rv r (bytesV rest)) := Lib.hid (by have h := hD.own; rw [hr] at h; exact h)
  obtain ⟨nx, hnx⟩ : ∃ nx : Int, (xs.length : Int) = nx := ⟨_, rfl⟩
  obtain ⟨ny, hny⟩ : ∃ ny : Nat, ys.length = ny := ⟨_, rfl⟩
  have b1 : 0 ≤ nx := by omega
  have b2 : nx + ny ≤ 18446744073709550000 := by omega
  have hDlt := hD.dg.lt.1
  have hHlt := hD.dg.lt.2
  have hDH := Lib.hid hD.dg.ne
  rw [hny] at hyc hpath ⊢
  rw [hnx] at d2
  rw [hr] at hrv
  have HNX := Lib.hid hnx
  have HNY := Lib.hid hny
  have HR := Lib.hid hr
  obtain ⟨i0, hi, hz0, hz1, hz2⟩ := info_parts info_u8
  subst hrv
  clear hD hy hK hgD hgH hgr hnx hny htot hr hrc
  have e1 : (0 : Int) < r := by omega
  have e2 : (r : Int) + ny < 64 := by omega
  have e3 : (0 : Int) ≤ ny := by omega
  have e4 : (ny : Int) ≤ cap := by omega
  have hmin : min (64 - (r : Int)) ny = ny := by omega
  have e5 : (r : Int) < 64 := by omega
  have HN1 : Hid ((bytesV ys).length = ny * 1) := Lib.hid (by rw [bytesV_length, HNY.out]; omega)
  go_enter Tryz.func186, Tryz.ntmps186
  go_wp2
  go_region_law ((refine step_append_shape (by rfl) (.tmp 43) (.tmp 46) 138 (by rfl) base 5 i0 (.int .u8 0) 1 1 Tryz.underlying138 hi hz0 hz1 hz2 rfl (by decide) (.slice rA r rcap) r (bytesV rest) (by rfl) (own_drew (own_but HOw.out (but_setCell w D 2 _) (fun k hk (q : k = D) => HFar0.out.1 (by rw [hk, q])))) ⟨gb, o, none⟩ ny cap (bytesV ys) (by rfl) HN1.out (range_add (fun t v ht => (but_setCell w D 2 _).cell (HY.out t v ht) (fun (q : gb = D) => HSg.out (Or.inl q)))) (bytesV_one _) (by unfold maxLen; omega) (by omega) (by first | (simp; done) | (simp; omega)) ?_; intro A2 cap2 w3 hown3 hgrow3 hat3; have e6 := (hgrow3.block D (by first | (simp; done) | (simp; omega)) (fun e => HFar0.out.1 e.symm)); have d1' := cell_block (o := 1) e6 (by rw [World.cell?_drew, cell_set_ne _ (by decide)]; exact d1); have f1' := frozen_block (o := 1) e6 (by rw [World.frozen?_drew, World.frozen?_setCell] <;> exact f1); have hD3 := block_of_cell d1'))
  go_wp2
  all_goals
    refine bodyPost_ret (results_none rfl _ _ _) rfl ?_
    have hb3 : But (WriteS D hb (.slice rA r rcap)) w w3 := (((but_setCell w D 2 (.int .u64 (nx + ny))).mono (T := WriteS D hb (.slice rA r rcap)) (fun _ _ q => Or.inl q)).drew).grown hgrow3 (fun i hi _ => Or.inr (Or.inr hi))
    have hbut := hb3.setCell D 1 (.slice A2 (r + ny) cap2) (fun _ => Or.inl rfl)
    have hne : ∀ k, k < w.heap.size → (Value.slice rA r rcap).ownBlock ≠ some k → (Value.slice A2 (r + ny) cap2).ownBlock ≠ some k := by
      intro k hk hn q
      have h := hat3
      rcases h with h | h
      · exact hn (h.symm.trans q)
      · rw [h] at q; injection q with q; simp at q; omega
    have hD2 : Dg D hb (w.setCell ⟨D, 2, none⟩ (.int .u64 (nx + ny))) (.slice rA r rcap) (nx + ny) (blks q shaH0 done) := HDD.out.dg.set2 _
    have hD3 : Dg D hb w3 (.slice rA r rcap) (nx + ny) (blks q shaH0 done) := hD2.but (w' := w3) (S := fun k => (Value.slice rA r rcap).ownBlock = some k) ⟨hgrow3.os, hgrow3.tape, hgrow3.output, hgrow3.size, fun k hk hn => hgrow3.block k hk (fun e => hn e.symm)⟩ HFar0.out.1 HFar0.out.2
    have hlen : (rest ++ ys).length = r + ny := by rw [List.length_append, HR.out, HNY.out]
    refine ⟨rfl, ⟨q, done, rest ++ ys, .slice A2 (r + ny) cap2, ⟨by rw [HDD.out.all, List.append_assoc], HDD.out.len, by rw [hlen]; omega, ?_, ?_, ⟨hne D hDlt HFar0.out.1, hne hb hHlt HFar0.out.2⟩, HBas.out.1, HBas.out.2⟩⟩, hbut.to_below hbase (fun k hk q => by have := HH1.out k q; omega)⟩
    · have h := hD3.set1 (.slice A2 (r + ny) cap2)
      rw [List.length_append]
      rw [← HNX.out, ← HNY.out] at h
      rw [← HNY.out]
      exact h
    · rw [hlen, bytesV_append]
      exact own_but hown3 (but_setCell w3 D 1 _) (fun k hk (q : k = D) => hne D hDlt HFar0.out.1 (by rw [hk, q]))

set_option maxRecDepth 100000 in
set_option maxHeartbeats 4000000 in
theorem write_long (base D hb gb o cap q r : Nat) (xs ys done rest : List UInt8) (rv : Value) (w : World) (hD : DigAt base D hb w xs q done rest rv) (hr : rest.length = r) (hr0 : 0 < r) (hy : w.rangeAt gb o (bytesV ys)) (hyc : ys.length ≤ cap) (hcap : cap ≤ 9223372036854775807)
    (hgD : gb ≠ D) (hgH : gb ≠ hb) (hgr : rv.ownBlock ≠ some gb) (hbase : base ≤ w.heap.size) (htot : xs.length + ys.length ≤ 18446744073709550000) (hK : KTab 17 w) (hKb : 17 < base) (hpath : 64 ≤ r + ys.length) :
    Calls Tryz.prog 186 #[.pointer (some ⟨D, 0, none⟩), .slice (some ⟨gb, o, none⟩) ys.length cap] w fun ev w' => ev = .returned (.tuple #[]) ∧ (∃ q' done' rest' rv', DigAt base D hb w' (xs ++ ys) q' done' rest' rv') ∧ Below base w w' := by
  obtain ⟨rA, rcap, hrv, hrc⟩ := own_shape hD.own
  have hr64 : r < 64 := by have := hD.short; omega
  have HY := Lib.hid hy
  have HK := Lib.hid hK
  have HSg : Hid (¬ WriteS D hb rv gb) := Lib.hid (by
    rintro (q | q | q)
    · exact hgD q
    · exact hgH q
    · exact hgr q)
  have HSk : Hid (¬ WriteS D hb rv 17) := Lib.hid (by
    rintro (q | q | q)
    · have := hD.baseD; omega
    · have := hD.baseH; omega
    · have := (hD.own.lt _ q).1; omega)
  have d0 := hD.dg.c0
  have d1 := hD.dg.c1
  have d2 := hD.dg.c2
  have f2 := hD.dg.fr 2
  have f1 := hD.dg.fr 1
  have HDD := Lib.hid hD
  have HFar0 := Lib.hid hD.far
  have HBas := Lib.hid (And.intro hD.baseD hD.baseH)
  have HH1 : Hid (∀ k, WriteS D hb rv k → base ≤ k) := Lib.hid (by
    rintro k (q | q | q)
    · rw [q]; exact hD.baseD
    · rw [q]; exact hD.baseH
    · exact (hD.own.lt k q).1)
  have HOw : Hid (w.ownsRow base 5 1 rv r (bytesV rest)) := Lib.hid (by have h := hD.own; rw [hr] at h; exact h)
  obtain ⟨nx, hnx⟩ : ∃ nx : Int, (xs.length : Int) = nx := ⟨_, rfl⟩
  obtain ⟨ny, hny⟩ : ∃ ny : Nat, ys.length = ny := ⟨_, rfl⟩
  have b1 : 0 ≤ nx := by omega
  have b2 : nx + ny ≤ 18446744073709550000 := by omega
  have hDlt := hD.dg.lt.1
  have hHlt := hD.dg.lt.2
  have hDH := Lib.hid hD.dg.ne
  rw [hny] at hyc hpath ⊢
  rw [hnx] at d2
  rw [hr] at hrv
  have HNX := Lib.hid hnx
  have HNY := Lib.hid hny
  have HR := Lib.hid hr
  obtain ⟨i0, hi, hz0, hz1, hz2⟩ := info_parts info_u8
  subst hrv
  clear hD hy hK hgD hgH hgr hnx hny htot hr hrc
  obtain ⟨k, hk⟩ : ∃ k, 64 - r = k := ⟨_, rfl⟩
  have k1 : r + k = 64 := by omega
  have k2 : k ≤ ny := by omega
  have k3 : 0 < k := by omega
  have HK1 := Lib.hid k1
  have e1 : (0 : Int) < r := by omega
  have e2 : (64 : Int) ≤ r + k := by omega
  have e3 : (0 : Int) ≤ k := by omega
  have e4 : (k : Int) ≤ ny := by omega
  have e5 : (ny : Int) ≤ cap := by omega
  have e6 : (k : Int) ≤ cap := by omega
  have hsub : (64 : Int) - r = k := by omega
  have e7 : (r : Int) < 64 := by omega
  have HN1 : Hid ((bytesV (ys.take k)).length = k * 1) := Lib.hid (by rw [bytesV_length, List.length_take, HNY.out]; omega)
  have HY1 : Hid (w.rangeAt gb o (bytesV (ys.take k))) := Lib.hid (by have h := rangeAt_sub HY.out 0 k; rw [List.drop_zero, Nat.add_zero] at h; rw [bytesV_take]; exact h)
  have HRL : Hid ((rest ++ ys.take k).length = 64) := Lib.hid (by rw [List.length_append, HR.out, List.length_take, HNY.out]; omega)
  clear k1 hk hpath
  rcases (by omega : k = cap ∨ k < cap) with rfl | hkc
  all_goals
    go_enter Tryz.func186, Tryz.ntmps186
    go_wp2
    go_region_law ((refine step_append_shape (by rfl) (.tmp 43) (.tmp 46) 138 (by rfl) base 5 i0 (.int .u8 0) 1 1 Tryz.underlying138 hi hz0 hz1 hz2 rfl (by decide) (.slice rA r rcap) r (bytesV rest) (by rfl) (own_drew (own_but HOw.out (but_setCell w D 2 _) (fun k hk (q : k = D) => HFar0.out.1 (by rw [hk, q])))) ⟨gb, o, none⟩ k _ (bytesV (ys.take k)) (by rfl) HN1.out (range_add (fun t v ht => (but_setCell w D 2 _).cell (HY1.out t v ht) (fun (q : gb = D) => HSg.out (Or.inl q)))) (bytesV_one _) (by unfold maxLen; omega) (by omega) (by first | (simp; done) | (simp; omega)) ?_; intro A2 cap2 w3 hown3 hgrow3 hat3; have e6 := (hgrow3.block D (by first | (simp; done) | (simp; omega)) (fun e => HFar0.out.1 e.symm)); have d1' := cell_block (o := 1) e6 (by rw [World.cell?_drew, cell_set_ne _ (by decide)]; exact d1); have f1' := frozen_block (o := 1) e6 (by rw [World.frozen?_drew, World.frozen?_setCell] <;> exact f1); have hD3 := block_of_cell d1'))
    have hb3 : But (WriteS D hb (.slice rA r rcap)) w w3 := (((but_setCell w D 2 (.int .u64 (nx + ny))).mono (T := WriteS D hb (.slice rA r rcap)) (fun _ _ q => Or.inl q)).drew).grown hgrow3 (fun i hi _ => Or.inr (Or.inr hi))
    obtain ⟨g2, cap3, hA2, hg2b, hg2l⟩ := hown3.form (by omega)
    cases hA2
    have hne : ∀ i, i < w.heap.size → (Value.slice rA r rcap).ownBlock ≠ some i → g2 ≠ i := by
      intro i hi hn q
      rcases hat3 with h | h
      · exact hn (by rw [← h, ← q]; rfl)
      · have h : some g2 = some _ := h
        injection h with h
        simp at h; omega
    have hD2 : Dg D hb (w.setCell ⟨D, 2, none⟩ (.int .u64 (nx + ny))) (.slice rA r rcap) (nx + ny) (blks q shaH0 done) := HDD.out.dg.set2 _
    have hD4 : Dg D hb w3 (.slice rA r rcap) (nx + ny) (blks q shaH0 done) := hD2.but (w' := w3) (S := fun k => (Value.slice rA r rcap).ownBlock = some k) ⟨hgrow3.os, hgrow3.tape, hgrow3.output, hgrow3.size, fun k hk hn => hgrow3.block k hk (fun e => hn e.symm)⟩ HFar0.out.1 HFar0.out.2
    have HD5 := Lib.hid (hD4.set1 (.slice (some ⟨g2, 0, none⟩) (r + k) cap2))
    have HG2 := Lib.hid (And.intro (hne D hDlt HFar0.out.1) (hne hb hHlt HFar0.out.2))
    have HO5 : Hid ((w3.setCell ⟨D, 1, none⟩ (.slice (some ⟨g2, 0, none⟩) (r + k) cap2)).ownsRow base 5 1 (.slice (some ⟨g2, 0, none⟩) (r + k) cap2) (r + k) (bytesV (rest ++ ys.take k))) := Lib.hid (by rw [bytesV_append]; exact own_but hown3 (but_setCell w3 D 1 _) (fun i hi (q : i = D) => HG2.out.1 (by rw [← q]; injection hi)))
    have HB5 := Lib.hid (hb3.setCell D 1 (.slice (some ⟨g2, 0, none⟩) (r + k) cap2) (fun _ => Or.inl rfl))
    have HLB : Hid (∀ i, i < w.heap.size → (Value.slice (some ⟨g2, 0, none⟩) 0 cap2).ownBlock = some i → WriteS D hb (.slice rA r rcap) i) := Lib.hid (fun i hi hq => by
      have hq : some g2 = some i := hq
      injection hq with hq
      rcases hat3 with h | h
      · exact Or.inr (Or.inr (by rw [← h, ← hq]; rfl))
      · have h : some g2 = some _ := h
        injection h with h
        simp at h; omega)
    obtain ⟨w4, hw4⟩ : ∃ w4, w3.setCell ⟨D, 1, none⟩ (.slice (some ⟨g2, 0, none⟩) (r + k) cap2) = w4 := ⟨_, rfl⟩
    rw [hw4] at HD5 HO5 HB5 ⊢
    have hc2 : r + k ≤ cap2 := by obtain ⟨A, c, h, h2⟩ := own_shape hown3; cases h; exact h2
    have hcm2 : cap2 ≤ 9223372036854775807 := by
      rcases hown3.2 with ⟨h, _⟩ | ⟨_, _, _, h, _, _, _, h2, _⟩
      · cases h
      · cases h; unfold maxLen at h2; exact h2
    clear hw4 hown3 hgrow3 hat3 hb3 hg2b hg2l hne hD2 hD4 d1' f1' hD3 d0 d1 d2 f1 f2 e6
    have d0 := HD5.out.c0
    have d1 := HD5.out.c1
    have HR5 : Hid (w4.rangeAt g2 0 (bytesV (rest ++ ys.take k))) := Lib.hid (fun t v ht => by rw [Nat.zero_add]; have h := HO5.out.cells (g := g2) rfl t v ht; rwa [addr_add] at h)
    have HKw : Hid (KTab 17 w4) := Lib.hid (HK.out.but HB5.out HSk.out)
    have e8 : (64 : Int) ≤ cap2 := by omega
    go_wp2
    go_region_with (go_at_call 208; refine (block_any hb g2 0 _ _ _ (rest ++ ys.take k) _ (HD5.out.words.drewN 1) (blks_length _ _ _ rfl) HR5.out HRL.out (by omega) (by omega) (by omega) HKw.out).mono ?_; rintro ev w5 ⟨rfl, hw5, hb5⟩)
    all_goals
      have hb5 := ((But.refl (· = hb) w4).drewN 1).trans hb5
      have HSn : Hid (blkL (blks q shaH0 done) (rest ++ ys.take k) = blks (q + 1) shaH0 (done ++ (rest ++ ys.take k))) := Lib.hid (blks_snoc _ _ _ _ HDD.out.len HRL.out).symm
      have HD6 := Lib.hid (HD5.out.block (hw5.congr HSn.out) hb5)
      have HO6 := Lib.hid (own_but HO5.out hb5 (fun i hi (q : i = hb) => HG2.out.2 (by rw [← q]; injection hi)))
      have HB6 := Lib.hid (HB5.out.step hb5 (fun _ _ q => Or.inr (Or.inl q)))
      have d1 := HD6.out.c1
      have f1 := HD6.out.fr 1
      have hD6 := HD6.out.lt.1
      clear hw5 hb5
      go_wp2
      have HO7 : Hid ((w5.setCell ⟨D, 1, none⟩ (.slice (some ⟨g2, 0, none⟩) 0 cap2)).ownsRow base 5 1 (.slice (some ⟨g2, 0, none⟩) 0 cap2) 0 []) := Lib.hid (own_but (by have h := own_take HO6.out 0 (by omega); simpa using h) (but_setCell w5 D 1 _) (fun i hi (q : i = D) => HG2.out.1 (by rw [← q]; injection hi)))
      have HB7 := Lib.hid (HB6.out.setCell D 1 (.slice (some ⟨g2, 0, none⟩) 0 cap2) (fun _ => Or.inl rfl))
      have HD7 := Lib.hid (HD6.out.set1 (.slice (some ⟨g2, 0, none⟩) 0 cap2))
      have HFar : Hid ((Value.slice (some ⟨g2, 0, none⟩) 0 cap2).ownBlock ≠ some D ∧ (Value.slice (some ⟨g2, 0, none⟩) 0 cap2).ownBlock ≠ some hb) := Lib.hid ⟨fun h => HG2.out.1 (by injection h), fun h => HG2.out.2 (by injection h)⟩
      have HDN7 : Hid ((done ++ (rest ++ ys.take k)).length = 64 * (q + 1) ∧ (done ++ (rest ++ ys.take k)) ++ ys.drop k = xs ++ ys) := Lib.hid ⟨by rw [List.length_append, HRL.out, HDD.out.len]; omega, by rw [HDD.out.all]; simp⟩
      clear hsub d1 f1
      go_loopw [1] (fun b wr => ∃ (j m q1 cap1 oo : Nat) (done1 : List UInt8), Hid (m + j = ys.length) ∧ b = .slice (some ⟨gb, oo, none⟩) m cap1 ∧ m ≤ cap1 ∧ cap1 ≤ 9223372036854775807 ∧ Hid (0 < m → oo = o + j) ∧ Hid (Dg D hb wr (.slice (some ⟨g2, 0, none⟩) 0 cap2) (nx + ny) (blks q1 shaH0 done1)) ∧ Hid (done1.length = 64 * q1 ∧ done1 ++ ys.drop j = xs ++ ys) ∧ Hid (wr.ownsRow base 5 1 (.slice (some ⟨g2, 0, none⟩) 0 cap2) 0 []) ∧ Hid (But (WriteS D hb (.slice rA r rcap)) w wr)) (fun b _ => match b with | .slice _ m _ => m | _ => 0)
      case atStart => 
          first
            | exact ⟨k, ny - k, q + 1, _, _, _, Lib.hid (by have := HNY.out; omega), rfl, by omega, by omega, Lib.hid (fun h => by omega), HD7, HDN7, HO7, HB7⟩
            | exact ⟨k, 0, q + 1, 0, o, _, Lib.hid (by have := HNY.out; omega), rfl, by omega, by omega, Lib.hid (fun h => by omega), HD7, HDN7, HO7, HB7⟩
      case round =>
        obtain ⟨j, m, q1, cap1, oo, done1, HM, rfl, hmc, hcc, HA, HD, HDN, HO, HB⟩ := hrel
        by_cases hlt : 64 ≤ m
        · 
          have i1 : (64 : Int) ≤ m := by omega
          have i2 : (64 : Int) ≤ cap1 := by omega
          have i3 : (m : Int) ≤ cap1 := by omega
          have hoo := HA.out (by omega)
          have d0 := HD.out.c0
          have HR : Hid (wr.rangeAt gb oo (bytesV ((ys.drop j).take 64))) := Lib.hid (by
            rw [bytesV_take, bytesV_drop, hoo]
            refine rangeAt_sub (fun t v ht => HB.out.cell (HY.out t v ht) ?_) j 64
            exact HSg.out)
          have HOO := Lib.hid hoo
          clear hoo
          have HL : Hid (((ys.drop j).take 64).length = 64) := Lib.hid (by rw [List.length_take, List.length_drop]; have := HM.out; omega)
          have HKw : Hid (KTab 17 wr) := Lib.hid (HK.out.but HB.out HSk.out)
          have HSn : Hid (blkL (blks q1 shaH0 done1) ((ys.drop j).take 64) = blks (q1 + 1) shaH0 (done1 ++ (ys.drop j).take 64)) := Lib.hid (blks_snoc _ _ _ _ HDN.out.1 HL.out).symm
          have HDn2 : Hid ((done1 ++ (ys.drop j).take 64).length = 64 * (q1 + 1) ∧ (done1 ++ (ys.drop j).take 64) ++ ys.drop (j + 64) = xs ++ ys) := Lib.hid ⟨by rw [List.length_append, HDN.out.1, HL.out]; omega, by rw [← HDN.out.2, List.append_assoc, ← List.drop_drop, List.take_append_drop]⟩
          rcases (by omega : cap1 = 64 ∨ 64 < cap1) with rfl | hc
          all_goals
            go_wp2
            go_region_with (go_at_call 208; refine (block_any hb gb oo 64 _ _ ((ys.drop j).take 64) _ (HD.out.words.drewN 1) (blks_length _ _ _ rfl) HR.out HL.out (by omega) (by omega) (by omega) HKw.out).mono ?_; rintro ev w' ⟨rfl, hw', hb'⟩)
            all_goals
              have hb' := ((But.refl (· = hb) wr).drewN 1).trans hb'
              have HD2 := Lib.hid (HD.out.block (hw'.congr HSn.out) hb')
              have HO2 := Lib.hid (own_but HO.out hb' (fun k hk (q : k = hb) => HFar.out.2 (by rw [hk, q])))
              have HB2 := Lib.hid (HB.out.step hb' (fun _ _ q => Or.inr (Or.inl q)))
              clear hw' hb'
              go_wp2
              go_roundw
              case rel =>
                first
                  | exact ⟨j + 64, m - 64, q1 + 1, _, _, _, Lib.hid (by have := HM.out; omega), rfl, by omega, by omega, Lib.hid (fun h => by have := HOO.out; omega), HD2, HDn2, HO2, HB2⟩
                  | exact ⟨j + 64, 0, q1 + 1, 0, oo, _, Lib.hid (by have := HM.out; omega), rfl, by omega, by omega, Lib.hid (fun h => by omega), HD2, HDn2, HO2, HB2⟩
              case measure => simp; omega
          
        · have i1 : (m : Int) < 64 := by omega
          have d1 := HD.out.c1
          have f1 := HD.out.fr 1
          have hDlt := HD.out.lt.1
          have hbw := HB.out.size
          have HR : Hid (wr.rangeAt gb oo (bytesV (ys.drop j))) := Lib.hid (by
            by_cases hm : 0 < m
            · rw [HA.out hm, bytesV_drop]
              have h := rangeAt_sub (w := wr) (b := gb) (o := o) (cs := bytesV ys) (fun t v ht => HB.out.cell (HY.out t v ht) HSg.out) j ys.length
              rwa [List.take_of_length_le (by rw [List.length_drop, bytesV_length]; omega)] at h
            · rw [List.drop_of_length_le (by have := HM.out; omega)]; intro t v ht; simp [bytesV] at ht)
          have HLn : Hid ((bytesV (ys.drop j)).length = m * 1) := Lib.hid (by rw [bytesV_length, List.length_drop]; have := HM.out; omega)
          obtain ⟨i0, hi, hz0, hz1, hz2⟩ := info_parts info_u8
          go_wp2_with ((at_builtin; refine wpList_append_shape rfl (.tmp 92) (.tmp 93) 138 rfl base 5 i0 (.int .u8 0) 1 1 Tryz.underlying138 hi hz0 hz1 hz2 rfl (by decide) (.slice (some ⟨g2, 0, none⟩) 0 cap2) 0 [] rfl HO.out ⟨gb, oo, none⟩ m cap1 (bytesV (ys.drop j)) rfl HLn.out (range_add HR.out) (bytesV_one _) (by unfold maxLen; omega) (by omega) (by omega) ?_; intro A9 cap9 w3 hown3 hgrow3 hat3; have e1 := (hgrow3.block D (by omega) (fun e => HFar.out.1 e.symm)); have d1' := cell_block e1 d1; have f1' := frozen_block e1 f1; have hD3 := block_of_cell d1'))
          go_end0
          have h1 := HH1.out
          have hbut : But (WriteS D hb (.slice rA r rcap)) w (w3.setCell ⟨D, 1, none⟩ (.slice A9 m cap9)) := (HB.out.grown hgrow3 (fun r hr hlt => HLB.out r hlt hr)).setCell D 1 _ (fun _ => Or.inl rfl)
          have hown : w3.ownsRow base 5 1 (.slice A9 m cap9) m (bytesV (ys.drop j)) := by have h := hown3; rw [Nat.zero_add, List.nil_append] at h; exact h
          have hne : ∀ k, k < wr.heap.size → ((.slice (some ⟨g2, 0, none⟩) 0 cap2) : Value).ownBlock ≠ some k → (Value.slice A9 m cap9).ownBlock ≠ some k := by
            intro k hk hn q
            have h := hat3
            rw [Nat.zero_add] at h
            rcases h with h | h
            · exact hn (h.symm.trans q)
            · rw [h] at q; injection q with q; omega
          have hD3 : Dg D hb w3 (.slice (some ⟨g2, 0, none⟩) 0 cap2) (nx + ny) (blks q1 shaH0 done1) := HD.out.but (S := fun k => ((.slice (some ⟨g2, 0, none⟩) 0 cap2) : Value).ownBlock = some k) ⟨hgrow3.os, hgrow3.tape, hgrow3.output, hgrow3.size, fun k hk hn => hgrow3.block k hk (fun e => hn e.symm)⟩ HFar.out.1 HFar.out.2
          have hmj := HM.out
          have hlen : (ys.drop j).length = m := by rw [List.length_drop]; omega
          refine ⟨rfl, ⟨q1, done1, ys.drop j, .slice A9 m cap9, ⟨HDN.out.2.symm, HDN.out.1, by rw [hlen]; omega, ?_, ?_, ⟨hne D hDlt HFar.out.1, hne hb HD.out.lt.2 HFar.out.2⟩, HBas.out.1, HBas.out.2⟩⟩, hbut.to_below hbase (fun k hk q => by have := h1 k q; omega)⟩
          · have h := hD3.set1 (.slice A9 m cap9)
            rw [← HNX.out, ← HNY.out] at h
            rw [List.length_append]
            exact h
          · rw [hlen]
            exact own_but hown (but_setCell w3 D 1 _) (fun k hk (q : k = D) => hne D hDlt HFar.out.1 (by rw [hk, q]))

theorem write_any (base D hb gb o cap q : Nat) (xs ys done rest : List UInt8) (rv : Value) (w : World) (hD : DigAt base D hb w xs q done rest rv) (hy : w.rangeAt gb o (bytesV ys)) (hyc : ys.length ≤ cap) (hcap : cap ≤ 9223372036854775807)
    (hgD : gb ≠ D) (hgH : gb ≠ hb) (hgr : rv.ownBlock ≠ some gb) (hbase : base ≤ w.heap.size) (htot : xs.length + ys.length ≤ 18446744073709550000) (hK : KTab 17 w) (hKb : 17 < base) :
    Calls Tryz.prog 186 #[.pointer (some ⟨D, 0, none⟩), .slice (some ⟨gb, o, none⟩) ys.length cap] w fun ev w' => ev = .returned (.tuple #[]) ∧ (∃ q' done' rest' rv', DigAt base D hb w' (xs ++ ys) q' done' rest' rv') ∧ Below base w w' := by
  by_cases h0 : rest.length = 0
  · obtain rfl := List.eq_nil_of_length_eq_zero h0
    exact write_empty base D hb gb o cap q xs ys done rv w hD hy hyc hcap hgD hgH hgr hbase htot hK hKb
  · by_cases h1 : rest.length + ys.length < 64
    · exact write_short base D hb gb o cap q rest.length xs ys done rest rv w hD rfl (by omega) hy hyc hcap hgD hgH hgr hbase htot hK hKb h1
    · exact write_long base D hb gb o cap q rest.length xs ys done rest rv w hD rfl (by omega) hy hyc hcap hgD hgH hgr hbase htot hK hKb (by omega)
end Go.Proofs.YtnpblpbcchminaaGreatDoor
