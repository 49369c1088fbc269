/- The law BatchRoots. Condition: the package-level variables read as listed. -/
import Derived.Test.YtmfngcnmacjbfaaDoorTwinHash
import Derived.Test.YtmfngcnmacjbfaaDoorLawCounts
import Derived.Test.YtmfngcnmacjbfaaDoorBatchVerify
import Derived.BigRegion
import Derived.Laws.BitsAllLaws
import Derived.Deep.DeepCutAuto
namespace Go.Proofs.YtmfngcnmacjbfaaDoor
open Go.ChangeShapes Go.WideShapes Go.ChangeAt Go.RowKit
set_option linter.unusedVariables false

/-- the root that is handed back: none is the zero hash -/
def rootK (x sz : Int) (L P : List (List UInt8)) : List UInt8 := if batchK x sz L.length P.length = 0 then rootB x sz L P else zeroH
theorem rootK_len {x sz : Int} {L P : List (List UInt8)} (hl : H32 L) (hp : H32 P) (hs0 : 0 ≤ sz) (hx0 : 0 ≤ x) : (rootK x sz L P).length = 32 := by
  unfold rootK; split
  · exact root_len hl hp hs0 hx0 (by assumption)
  · exact zeroH_length
theorem batchK_16 (x sz : Int) (n m : Nat) : batchK x sz n m ≤ 16 := by rcases batchK_of x sz n m with h | h | h | h <;> omega
theorem verK_16 (x sz : Int) (L P : List (List UInt8)) (t : List UInt8) : verK x sz L P t ≤ 16 := by
  have := batchK_16 x sz L.length P.length
  unfold verK; split
  · exact this
  · split <;> omega
theorem root_gen (a : Nat → Addr) (B : Nat) (x sz : Int) (lA pA : Option Addr) (n m lcap pcap : Nat) (L P : List (List UInt8)) (w : World) (hE : Env B a w) (hl : HIn w lA n lcap L) (hp : HIn w pA m pcap P) (hx0 : 0 ≤ x) (hx1 : x < 18446744073709551616) (hs0 : 0 ≤ sz) (hs1 : sz < 18446744073709551616) :
    Calls Tryd.prog 15 #[.int .u64 x, .int .u64 sz, .slice lA n lcap, .slice pA m pcap] w fun ev w' => ev = .returned (.tuple #[hv (rootK x sz L P), errK a (batchK x sz L.length P.length)]) ∧ Below w.heap.size w w' := by
  have e1 := hl.2.1
  have e2 := hp.2.1
  subst e1 e2
  unfold rootK errK
  by_cases hk : batchK x sz L.length P.length = 0
  · rw [if_pos hk, if_pos hk]
    exact (root_ok a B x sz lA pA lcap pcap L P w hE hl hp hx0 hx1 hs0 hs1 hk).mono (fun _ _ q => ⟨q.1, q.2.2⟩)
  · rw [if_neg hk, if_neg hk]
    exact root_bad a B x sz lA pA _ _ lcap pcap w hE hx0 hx1 hs0 hs1 (Nat.le_trans hl.2.2.1 hl.2.2.2.1) (Nat.le_trans hp.2.2.1 hp.2.2.2.1) _ rfl hk
theorem refroot_gen (x sz : Int) (lA pA : Option Addr) (n m lcap pcap : Nat) (L P : List (List UInt8)) (w : World) (hl : HIn w lA n lcap L) (hp : HIn w pA m pcap P) (hx0 : 0 ≤ x) (hx1 : x < 18446744073709551616) (hs0 : 0 ≤ sz) (hs1 : sz < 18446744073709551616) :
    Calls Tryd.prog 14 #[.int .u64 x, .int .u64 sz, .slice lA n lcap, .slice pA m pcap] w fun ev w' => ev = .returned (.tuple #[hv (rootK x sz L P), faultV (batchK x sz L.length P.length)]) ∧ Below w.heap.size w w' := by
  have e1 := hl.2.1
  have e2 := hp.2.1
  subst e1 e2
  unfold rootK
  by_cases hk : batchK x sz L.length P.length = 0
  · rw [if_pos hk, hk]
    exact (refroot_ok x sz lA pA lcap pcap L P w hl hp hx0 hx1 hs0 hs1 hk).mono (fun _ _ q => ⟨q.1, q.2.2⟩)
  · rw [if_neg hk]
    exact refroot_bad x sz lA pA _ _ lcap pcap w hx0 hx1 hs0 hs1 (Nat.le_trans hl.2.2.1 hl.2.2.2.1) (Nat.le_trans hp.2.2.1 hp.2.2.2.1) hk
theorem verify_gen (a : Nat → Addr) (B : Nat) (x sz : Int) (lA pA : Option Addr) (n m lcap pcap : Nat) (L P : List (List UInt8)) (t : List UInt8) (ht : t.length = 32) (w : World) (hE : Env B a w) (hl : HIn w lA n lcap L) (hp : HIn w pA m pcap P) (hx0 : 0 ≤ x) (hx1 : x < 18446744073709551616) (hs0 : 0 ≤ sz) (hs1 : sz < 18446744073709551616) :
    Calls Tryd.prog 16 #[.int .u64 x, .int .u64 sz, .slice lA n lcap, .slice pA m pcap, hv t] w fun ev w' => ev = .returned (errK a (verK x sz L P t)) ∧ Below w.heap.size w w' := by
  have e1 := hl.2.1
  have e2 := hp.2.1
  subst e1 e2
  unfold verK
  by_cases hk : batchK x sz L.length P.length = 0
  · rw [if_neg (by simp [hk])]
    refine (verify_ok a B x sz lA pA lcap pcap L P t ht w hE hl hp hx0 hx1 hs0 hs1 hk).mono (fun _ _ q => ⟨?_, q.2⟩)
    rw [q.1]
    split <;> rfl
  · rw [if_pos hk]
    unfold errK
    rw [if_neg hk]
    exact verify_bad a B x sz lA pA _ _ lcap pcap t ht w hE hx0 hx1 hs0 hs1 (Nat.le_trans hl.2.2.1 hl.2.2.2.1) (Nat.le_trans hp.2.2.1 hp.2.2.2.1) _ rfl hk
/-- another hash to verify -/
def hash123 : List UInt8 := [1, 2, 3] ++ List.replicate 29 0
theorem hash123_v : hv hash123 = .agg #[.int .u8 1, .int .u8 2, .int .u8 3, .int .u8 0, .int .u8 0, .int .u8 0, .int .u8 0, .int .u8 0, .int .u8 0, .int .u8 0, .int .u8 0, .int .u8 0, .int .u8 0, .int .u8 0, .int .u8 0, .int .u8 0, .int .u8 0, .int .u8 0, .int .u8 0, .int .u8 0, .int .u8 0, .int .u8 0, .int .u8 0, .int .u8 0, .int .u8 0, .int .u8 0, .int .u8 0, .int .u8 0, .int .u8 0, .int .u8 0, .int .u8 0, .int .u8 0] := by kernel_rfl
/-- one byte turned -/
def bset (j : Nat) (m : UInt8) (y : List UInt8) : List UInt8 := y.set j (y.getD j 0 ^^^ m)
theorem bset_len (j : Nat) (m : UInt8) (y : List UInt8) : (bset j m y).length = y.length := by simp [bset]
theorem row_bset {w : World} {G o : Nat} {y : List UInt8} (j : Nat) (m : UInt8) (hy : j < y.length) (h : w.rangeAt G o (bytesV y)) (ht : w.there G (o + j) 1) : (w.setCell ⟨G, o + j, none⟩ (byteV (y.getD j 0 ^^^ m))).rangeAt G o (bytesV (bset j m y)) := fun i u hi => by
  by_cases e : i = j
  · subst e
    have := World.rangeAt_setCells_same w G (o + i) [byteV (y.getD i 0 ^^^ m)] ht 0 _ rfl
    rw [Nat.add_zero] at this
    have hu : u = byteV (y.getD i 0 ^^^ m) := by
      unfold bset bytesV at hi
      rw [List.getElem?_map, List.getElem?_set_self hy] at hi
      simpa using hi.symm
    rw [hu]; exact this
  · rw [cell_set_ne _ (by omega)]
    refine h i u ?_
    unfold bset bytesV at hi
    rw [List.getElem?_map, List.getElem?_set_ne (by omega)] at hi
    unfold bytesV
    rw [List.getElem?_map]; exact hi
/-- a list's copy, its first k elements turned -/
def Mix (w : World) (G k : Nat) (f : List UInt8 → List UInt8) (l : List (List UInt8)) : Prop := ∀ (i : Nat) y, (l ++ [markB])[i]? = some y → w.rangeAt G (i * 32) (bytesV (if i < k then f y else y))
theorem Mix.start {w : World} {G : Nat} {f : List UInt8 → List UInt8} {l : List (List UInt8)} (h : Twin w G l) : Mix w G 0 f l := fun i y hi => by rw [if_neg (by omega)]; exact h.2.1 i y hi
theorem Mix.end {w : World} {G : Nat} {f : List UInt8 → List UInt8} {l : List (List UInt8)} (h : Mix w G l.length f l) (h32 : H32 (l.map f)) (ht : w.there G 0 ((l.length + 1) * 32)) : Twin w G (l.map f) :=
  ⟨h32, fun i z hi => by
    by_cases e : i < l.length
    · rw [List.getElem?_append_left (by simpa using e), List.getElem?_map] at hi
      obtain ⟨y, hy, rfl⟩ := Option.map_eq_some_iff.1 hi
      have := h i y (by rw [List.getElem?_append_left e]; exact hy)
      rwa [if_pos e] at this
    · have hi2 : (l ++ [markB])[i]? = some z := by
        rw [List.getElem?_append_right (by simp; omega), List.length_map] at hi
        rw [List.getElem?_append_right (by omega)]; exact hi
      have := h i z hi2
      rwa [if_neg e] at this, by rw [List.length_map]; exact ht⟩
theorem Mix.step {w : World} {G k j : Nat} {m : UInt8} {l : List (List UInt8)} {y : List UInt8} (h : Mix w G k (bset j m) l) (h32 : H32 l) (hk : l[k]? = some y) (hj : j < 32) (ht : w.there G 0 ((l.length + 1) * 32)) : Mix (w.setCell ⟨G, k * 32 + j, none⟩ (byteV (y.getD j 0 ^^^ m))) G (k + 1) (bset j m) l := fun i z hi => by
  have hkl := (List.getElem?_eq_some_iff.1 hk).1
  have hy : y.length = 32 := h32 y (List.mem_of_getElem? hk)
  by_cases e : i = k
  · subst e
    rw [List.getElem?_append_left hkl, hk] at hi
    cases hi
    rw [if_pos (by omega)]
    have := h i y (by rw [List.getElem?_append_left hkl]; exact hk)
    rw [if_neg (by omega)] at this
    exact row_bset j m (by omega) this (there_mid ht (by have := Nat.mul_le_mul_right 32 (show i + 1 ≤ l.length + 1 by omega); omega))
  · have h1 := h i z hi
    have hz : (if i < k + 1 then bset j m z else z) = (if i < k then bset j m z else z) := by
      by_cases q : i < k
      · rw [if_pos q, if_pos (by omega)]
      · rw [if_neg q, if_neg (by omega)]
    rw [hz]
    have hzl : z.length = 32 := by
      have := List.mem_of_getElem? hi
      rcases List.mem_append.1 this with q | q
      · exact h32 z q
      · simp at q; subst q; rfl
    have hl : (if i < k then bset j m z else z).length = 32 := by split <;> simp [bset_len, hzl]
    exact World.rangeAt_setCells_apart h1 G (k * 32 + j) [byteV (y.getD j 0 ^^^ m)] (by rw [bytesV_length, hl]; simp; omega)
theorem h32_bset {j : Nat} {m : UInt8} {l : List (List UInt8)} (h : H32 l) : H32 (l.map (bset j m)) := fun z hz => by
  obtain ⟨y, hy, rfl⟩ := List.mem_map.1 hz
  rw [bset_len]; exact h y hy
theorem byte_cell {w : World} {G k j : Nat} {m : UInt8} {l : List (List UInt8)} {y : List UInt8} (h : Mix w G k (bset j m) l) (h32 : H32 l) (hk : l[k]? = some y) (hj : j < 32) : w.cell? ⟨G, k * 32 + j, none⟩ = some (.int .u8 ((y.getD j 0).toNat : Int)) := by
  have hkl := (List.getElem?_eq_some_iff.1 hk).1
  have hy : y.length = 32 := h32 y (List.mem_of_getElem? hk)
  have := h k y (by rw [List.getElem?_append_left hkl]; exact hk)
  rw [if_neg (by omega)] at this
  refine this j _ ?_
  unfold bytesV
  rw [List.getElem?_map, List.getElem?_eq_getElem (by omega), List.getD_eq_getElem?_getD, List.getElem?_eq_getElem (by omega)]; rfl
theorem byte_xor (c m : UInt8) : bits .xor .u8 (c.toNat : Int) (m.toNat : Int) = ((c ^^^ m).toNat : Int) := by
  rw [u8_xor_nat _ _ c.toNat_lt m.toNat_lt, UInt8.toNat_xor]
theorem errK_of (a : Nat → Addr) (k : Nat) : ∃ v : Value, errK a k = v := ⟨_, rfl⟩

set_option maxRecDepth 100000 in
set_option maxHeartbeats 8000000 in
theorem roots_great (a : Nat → Addr) (B : Nat) (x sz ix : Int) (A1 A2 : Option Addr) (n1 k1 n2 k2 : Nat) (L P : List (List UInt8)) (w : World) (hE : Env B a w) (h1 : HIn w A1 n1 k1 L) (h2 : HIn w A2 n2 k2 P) (m1 : n1 ≤ 9000000000000000000) (m2 : n2 ≤ 9000000000000000000) (hx0 : 0 ≤ x) (hx1 : x < 18446744073709551616) (hs0 : 0 ≤ sz) (hs1 : sz < 18446744073709551616) (hg : 1048576 < n1 + n2) :
    Calls Tryd.prog 3 #[.int .u64 x, .int .u64 sz, .agg #[.slice A1 n1 k1, .slice A2 n2 k2, .int .u64 ix]] w fun ev w' => ev = .returned (.bool true) ∧ Below w.heap.size w w' := by
  have hgd : decide (1048576 < n1 + n2) = true := by simpa using hg
  have HE := Lib.hid hE
  have H1 := Lib.hid h1
  have H2 := Lib.hid h2
  have hwb : w.heap.size < (w.alloc (.cells #[.slice A1 n1 k1, .slice A2 n2 k2, .int .u64 ix] 25)).heap.size := by simp
  have c0 : (w.alloc (.cells #[.slice A1 n1 k1, .slice A2 n2 k2, .int .u64 ix] 25)).cell? ⟨w.heap.size, 0, none⟩ = some (.slice A1 n1 k1) := cell_new _ _ 0 _ rfl
  have c1 : (w.alloc (.cells #[.slice A1 n1 k1, .slice A2 n2 k2, .int .u64 ix] 25)).cell? ⟨w.heap.size, 1, none⟩ = some (.slice A2 n2 k2) := cell_new _ _ 1 _ rfl
  have c2 : (w.alloc (.cells #[.slice A1 n1 k1, .slice A2 n2 k2, .int .u64 ix] 25)).cell? ⟨w.heap.size, 2, none⟩ = some (.int .u64 ix) := cell_new _ _ 2 _ rfl
  have gb : Gr w (w.alloc (.cells #[.slice A1 n1 k1, .slice A2 n2 k2, .int .u64 ix] 25)) := (Gr.refl _).alloc _
  obtain ⟨wb, hwb'⟩ : ∃ wb, (w.alloc (.cells #[.slice A1 n1 k1, .slice A2 n2 k2, .int .u64 ix] 25)) = wb := ⟨_, rfl⟩
  rw [hwb'] at hwb c0 c1 c2 gb
  have gb : Below w.heap.size w wb := gb
  have HWB := Lib.hid hwb'
  have hbx : (Tryd.prog.info? 25).map (·.size) = some 3 := by kernel_rfl
  have HGA : Hid (∀ w, Calls Tryd.prog 12 #[.agg #[.slice A1 n1 k1, .slice A2 n2 k2, .int .u64 ix]] w fun ev w' => ev = .returned (.bool (decide (1048576 < n1 + n2))) ∧ Below w.heap.size w w') := Lib.hid (fun w => great_any A1 A2 n1 k1 n2 k2 ix w m1 m2)
  clear hwb' hE h1 h2 m1 m2
  clear hg
  go_enter Tryd.func3, Tryd.ntmps3
  go_upto_region 1 with fail
  rw [HWB.out]
  go_wp2_with fail
  refine (HGA.out wb).mono ?_
  rintro ev w2 ⟨rfl, b2⟩
  rw [hgd]
  go_wp2
  go_ret
  exact ⟨rfl, show Gr w _ from (by repeat (first | exact Gr.refl _ | (refine Gr.step ?_ (by assumption)) | (refine Gr.alloc ?_ _) | (refine Gr.drew ?_)))⟩

set_option maxRecDepth 100000 in
set_option maxHeartbeats 8000000 in
theorem roots_any (a : Nat → Addr) (B : Nat) (x sz ix : Int) (A1 A2 : Option Addr) (n1 k1 n2 k2 : Nat) (L P : List (List UInt8)) (w : World) (hE : Env B a w) (h1 : HIn w A1 n1 k1 L) (h2 : HIn w A2 n2 k2 P) (m1 : n1 ≤ 9000000000000000000) (m2 : n2 ≤ 9000000000000000000) (hx0 : 0 ≤ x) (hx1 : x < 18446744073709551616) (hs0 : 0 ≤ sz) (hs1 : sz < 18446744073709551616) (hg : n1 + n2 ≤ 1048576) :
    Calls Tryd.prog 3 #[.int .u64 x, .int .u64 sz, .agg #[.slice A1 n1 k1, .slice A2 n2 k2, .int .u64 ix]] w fun ev w' => ev = .returned (.bool true) ∧ Below w.heap.size w w' := by
  have hgd : decide (1048576 < n1 + n2) = false := by simp; omega
  have HN : Hid (n1 ≤ 1048576 ∧ n2 ≤ 1048576) := Lib.hid (by omega)
  have HLP : Hid (L.length = n1 ∧ P.length = n2 ∧ H32 L ∧ H32 P) := Lib.hid ⟨h1.2.1, h2.2.1, h1.1, h2.1⟩
  obtain ⟨rt, hrt⟩ : ∃ r, rootK x sz L P = r := ⟨_, rfl⟩
  have lrt : rt.length = 32 := by rw [← hrt]; exact rootK_len h1.1 h2.1 hs0 hx0
  obtain ⟨vr, evr, Hvr, Zvr, Ivr, Ovr⟩ := row_of rt lrt
  obtain ⟨vq, evq, Hvq, Zvq, Ivq, Ovq⟩ := row_of hash123 rfl
  have HVQ : Hid (vq = #[.int .u8 1, .int .u8 2, .int .u8 3, .int .u8 0, .int .u8 0, .int .u8 0, .int .u8 0, .int .u8 0, .int .u8 0, .int .u8 0, .int .u8 0, .int .u8 0, .int .u8 0, .int .u8 0, .int .u8 0, .int .u8 0, .int .u8 0, .int .u8 0, .int .u8 0, .int .u8 0, .int .u8 0, .int .u8 0, .int .u8 0, .int .u8 0, .int .u8 0, .int .u8 0, .int .u8 0, .int .u8 0, .int .u8 0, .int .u8 0, .int .u8 0, .int .u8 0]) := Lib.hid (by rw [hash123_v] at evq; cases evq; rfl)
  obtain ⟨K, hK⟩ : ∃ k, batchK x sz L.length P.length = k := ⟨_, rfl⟩
  have HK := Lib.hid hK
  have hK16 : K ≤ 16 := by rw [← hK]; exact batchK_16 _ _ _ _
  obtain ⟨K1, hK1⟩ : ∃ k, verK x sz L P rt = k := ⟨_, rfl⟩
  have hK116 : K1 ≤ 16 := by rw [← hK1]; exact verK_16 _ _ _ _ _
  obtain ⟨K2, hK2⟩ : ∃ k, verK x sz L P hash123 = k := ⟨_, rfl⟩
  have hK216 : K2 ≤ 16 := by rw [← hK2]; exact verK_16 _ _ _ _ _
  obtain ⟨vf, evf, HVF, Zvf, Ivf, Ovf⟩ := fault_of K
  obtain ⟨vf1, evf1, _, Zvf1, Ivf1, Ovf1⟩ := fault_of K1
  obtain ⟨vf2, evf2, _, Zvf2, Ivf2, Ovf2⟩ := fault_of K2
  obtain ⟨e0, he0⟩ := errK_of a K
  obtain ⟨e1, he1⟩ := errK_of a K1
  obtain ⟨e2, he2⟩ := errK_of a K2
  have SAME0 : Hid (∀ w, Env B a w → Calls Tryd.prog 17 #[e0, .agg vf] w fun ev w' => ev = .returned (.bool true) ∧ Below w.heap.size w w') := Lib.hid (fun w h => by rw [← he0, ← evf]; exact same_fault a B K w h.laid hK16)
  have SAME1 : Hid (∀ w, Env B a w → Calls Tryd.prog 17 #[e1, .agg vf1] w fun ev w' => ev = .returned (.bool true) ∧ Below w.heap.size w w') := Lib.hid (fun w h => by rw [← he1, ← evf1]; exact same_fault a B K1 w h.laid hK116)
  have SAME2 : Hid (∀ w, Env B a w → Calls Tryd.prog 17 #[e2, .agg vf2] w fun ev w' => ev = .returned (.bool true) ∧ Below w.heap.size w w') := Lib.hid (fun w h => by rw [← he2, ← evf2]; exact same_fault a B K2 w h.laid hK216)
  have CRR : Hid (∀ (A A' : Option Addr) (c c' : Nat) w, HIn w A n1 c L → HIn w A' n2 c' P → Calls Tryd.prog 14 #[.int .u64 x, .int .u64 sz, .slice A n1 c, .slice A' n2 c'] w fun ev w' => ev = .returned (.tuple #[.agg vr, .agg vf]) ∧ Below w.heap.size w w') := Lib.hid (fun A A' c c' w q1 q2 => by
    have := refroot_gen x sz A A' n1 n2 c c' L P w q1 q2 hx0 hx1 hs0 hs1
    rw [hrt, hK, evr, evf] at this; exact this)
  have CRT : Hid (∀ (A A' : Option Addr) (c c' : Nat) w, Env B a w → HIn w A n1 c L → HIn w A' n2 c' P → Calls Tryd.prog 15 #[.int .u64 x, .int .u64 sz, .slice A n1 c, .slice A' n2 c'] w fun ev w' => ev = .returned (.tuple #[.agg vr, e0]) ∧ Below w.heap.size w w') := Lib.hid (fun A A' c c' w hh q1 q2 => by
    have := root_gen a B x sz A A' n1 n2 c c' L P w hh q1 q2 hx0 hx1 hs0 hs1
    rw [hrt, hK, evr, he0] at this; exact this)
  have CV1 : Hid (∀ (A A' : Option Addr) (c c' : Nat) w, Env B a w → HIn w A n1 c L → HIn w A' n2 c' P → Calls Tryd.prog 16 #[.int .u64 x, .int .u64 sz, .slice A n1 c, .slice A' n2 c', .agg vr] w fun ev w' => ev = .returned e1 ∧ Below w.heap.size w w') := Lib.hid (fun A A' c c' w hh q1 q2 => by
    have := verify_gen a B x sz A A' n1 n2 c c' L P rt lrt w hh q1 q2 hx0 hx1 hs0 hs1
    rw [hK1, evr, he1] at this; exact this)
  have CV2 : Hid (∀ (A A' : Option Addr) (c c' : Nat) w, Env B a w → HIn w A n1 c L → HIn w A' n2 c' P → Calls Tryd.prog 16 #[.int .u64 x, .int .u64 sz, .slice A n1 c, .slice A' n2 c', .agg #[.int .u8 1, .int .u8 2, .int .u8 3, .int .u8 0, .int .u8 0, .int .u8 0, .int .u8 0, .int .u8 0, .int .u8 0, .int .u8 0, .int .u8 0, .int .u8 0, .int .u8 0, .int .u8 0, .int .u8 0, .int .u8 0, .int .u8 0, .int .u8 0, .int .u8 0, .int .u8 0, .int .u8 0, .int .u8 0, .int .u8 0, .int .u8 0, .int .u8 0, .int .u8 0, .int .u8 0, .int .u8 0, .int .u8 0, .int .u8 0, .int .u8 0, .int .u8 0]] w fun ev w' => ev = .returned e2 ∧ Below w.heap.size w w') := Lib.hid (fun A A' c c' w hh q1 q2 => by
    have := verify_gen a B x sz A A' n1 n2 c c' L P hash123 rfl w hh q1 q2 hx0 hx1 hs0 hs1
    rw [hK2, hash123_v, he2] at this; exact this)
  have CW1 : Hid (∀ (A A' : Option Addr) (c c' : Nat) w, HIn w A n1 c L → HIn w A' n2 c' P → Calls Tryd.prog 18 #[.int .u64 x, .int .u64 sz, .slice A n1 c, .slice A' n2 c', .agg vr] w fun ev w' => ev = .returned (.agg vf1) ∧ Below w.heap.size w w') := Lib.hid (fun A A' c c' w q1 q2 => by
    have e1 := q1.2.1
    have e2 := q2.2.1
    subst e1 e2
    have := refverify_any x sz A A' c c' L P rt w lrt q1 q2 hx0 hx1 hs0 hs1
    rw [hK1, evr, evf1] at this; exact this)
  have CW2 : Hid (∀ (A A' : Option Addr) (c c' : Nat) w, HIn w A n1 c L → HIn w A' n2 c' P → Calls Tryd.prog 18 #[.int .u64 x, .int .u64 sz, .slice A n1 c, .slice A' n2 c', .agg #[.int .u8 1, .int .u8 2, .int .u8 3, .int .u8 0, .int .u8 0, .int .u8 0, .int .u8 0, .int .u8 0, .int .u8 0, .int .u8 0, .int .u8 0, .int .u8 0, .int .u8 0, .int .u8 0, .int .u8 0, .int .u8 0, .int .u8 0, .int .u8 0, .int .u8 0, .int .u8 0, .int .u8 0, .int .u8 0, .int .u8 0, .int .u8 0, .int .u8 0, .int .u8 0, .int .u8 0, .int .u8 0, .int .u8 0, .int .u8 0, .int .u8 0, .int .u8 0]] w fun ev w' => ev = .returned (.agg vf2) ∧ Below w.heap.size w w') := Lib.hid (fun A A' c c' w q1 q2 => by
    have e1 := q1.2.1
    have e2 := q2.2.1
    subst e1 e2
    have := refverify_any x sz A A' c c' L P hash123 w rfl q1 q2 hx0 hx1 hs0 hs1
    rw [hK2, hash123_v, evf2] at this; exact this)
  have hqr : ∀ w, (Op.equalIn 10000 29 (.agg vr) (.agg vr)).run Tryd.prog w = .ok true w := fun w => by rw [eq_hash rt rt lrt lrt vr vr evr evr w]; simp
  have HXB := Lib.hid (And.intro hx0 (And.intro hx1 (And.intro hs0 hs1)))
  clear hrt lrt evr evq hK hK16 hK1 hK116 hK2 hK216 evf1 evf2 he1 he2
  have EF0 := Lib.hid (And.intro evf he0)
  clear evf he0 hg
  have HE := Lib.hid hE
  have H1 := Lib.hid h1
  have H2 := Lib.hid h2
  have hwb : w.heap.size < (w.alloc (.cells #[.slice A1 n1 k1, .slice A2 n2 k2, .int .u64 ix] 25)).heap.size := by simp
  have c0 : (w.alloc (.cells #[.slice A1 n1 k1, .slice A2 n2 k2, .int .u64 ix] 25)).cell? ⟨w.heap.size, 0, none⟩ = some (.slice A1 n1 k1) := cell_new _ _ 0 _ rfl
  have c1 : (w.alloc (.cells #[.slice A1 n1 k1, .slice A2 n2 k2, .int .u64 ix] 25)).cell? ⟨w.heap.size, 1, none⟩ = some (.slice A2 n2 k2) := cell_new _ _ 1 _ rfl
  have c2 : (w.alloc (.cells #[.slice A1 n1 k1, .slice A2 n2 k2, .int .u64 ix] 25)).cell? ⟨w.heap.size, 2, none⟩ = some (.int .u64 ix) := cell_new _ _ 2 _ rfl
  have gb : Gr w (w.alloc (.cells #[.slice A1 n1 k1, .slice A2 n2 k2, .int .u64 ix] 25)) := (Gr.refl _).alloc _
  obtain ⟨wb, hwb'⟩ : ∃ wb, (w.alloc (.cells #[.slice A1 n1 k1, .slice A2 n2 k2, .int .u64 ix] 25)) = wb := ⟨_, rfl⟩
  rw [hwb'] at hwb c0 c1 c2 gb
  have gb : Below w.heap.size w wb := gb
  have HWB := Lib.hid hwb'
  have hbx : (Tryd.prog.info? 25).map (·.size) = some 3 := by kernel_rfl
  have HGA : Hid (∀ w, Calls Tryd.prog 12 #[.agg #[.slice A1 n1 k1, .slice A2 n2 k2, .int .u64 ix]] w fun ev w' => ev = .returned (.bool (decide (1048576 < n1 + n2))) ∧ Below w.heap.size w w') := Lib.hid (fun w => great_any A1 A2 n1 k1 n2 k2 ix w m1 m2)
  clear hwb' hE h1 h2 m1 m2
  go_enter Tryd.func3, Tryd.ntmps3
  go_upto_region 1 with fail
  rw [HWB.out]
  go_wp2_with fail
  refine (HGA.out wb).mono ?_
  rintro ev w2 ⟨rfl, b2⟩
  rw [hgd]
  have d0w2 := cell_below (show Gr wb w2 from (by repeat (first | exact Gr.refl _ | (refine Gr.step ?_ (by assumption)) | (refine Gr.alloc ?_ _) | (refine Gr.drew ?_)))) c0 hwb; have d1w2 := cell_below (show Gr wb w2 from (by repeat (first | exact Gr.refl _ | (refine Gr.step ?_ (by assumption)) | (refine Gr.alloc ?_ _) | (refine Gr.drew ?_)))) c1 hwb
  go_wp2_with fail
  refine (twin_any A1 n1 k1 L w2 (H1.out.below (show Gr w w2 from (by repeat (first | exact Gr.refl _ | (refine Gr.step ?_ (by assumption)) | (refine Gr.alloc ?_ _) | (refine Gr.drew ?_))))) HN.out.1).mono ?_
  rintro ev w3 ⟨rfl, t1, b3⟩
  have T1 := Lib.hid t1
  have d0w3 := cell_below (show Gr wb w3 from (by repeat (first | exact Gr.refl _ | (refine Gr.step ?_ (by assumption)) | (refine Gr.alloc ?_ _) | (refine Gr.drew ?_)))) c0 hwb; have d1w3 := cell_below (show Gr wb w3 from (by repeat (first | exact Gr.refl _ | (refine Gr.step ?_ (by assumption)) | (refine Gr.alloc ?_ _) | (refine Gr.drew ?_)))) c1 hwb
  clear t1 d0w2 d1w2
  go_wp2_with fail
  refine (twin_any A2 n2 k2 P w3 (H2.out.below (show Gr w w3 from (by repeat (first | exact Gr.refl _ | (refine Gr.step ?_ (by assumption)) | (refine Gr.alloc ?_ _) | (refine Gr.drew ?_))))) HN.out.2).mono ?_
  rintro ev w4 ⟨rfl, t2, b4⟩
  have T2 := Lib.hid t2
  have d0w4 := cell_below (show Gr wb w4 from (by repeat (first | exact Gr.refl _ | (refine Gr.step ?_ (by assumption)) | (refine Gr.alloc ?_ _) | (refine Gr.drew ?_)))) c0 hwb; have d1w4 := cell_below (show Gr wb w4 from (by repeat (first | exact Gr.refl _ | (refine Gr.step ?_ (by assumption)) | (refine Gr.alloc ?_ _) | (refine Gr.drew ?_)))) c1 hwb
  clear t2 d0w3 d1w3
  go_wp2_with fail
  refine (CRR.out A1 A2 k1 k2 w4 (H1.out.below (show Gr w w4 from (by repeat (first | exact Gr.refl _ | (refine Gr.step ?_ (by assumption)) | (refine Gr.alloc ?_ _) | (refine Gr.drew ?_))))) (H2.out.below (show Gr w w4 from (by repeat (first | exact Gr.refl _ | (refine Gr.step ?_ (by assumption)) | (refine Gr.alloc ?_ _) | (refine Gr.drew ?_)))))).mono ?_
  rintro ev w5 ⟨rfl, b5⟩
  clear d0w4 d1w4
  go_upto_region 6 with (first
    | (refine wpList_store_row_any rfl 29 _ _ rfl w5.heap.size vr rfl rfl 29 _ ((((Below.refl _ (w5.alloc _)).alloc (Nat.le_refl _) _).block _ (by simp)).trans (heap_at _ _ _ rfl)) Ivr.out (by rw [Zvr.out]; rfl) Ovr.out ?_; intro w6a hbA hgA hsA; have BA56 := Lib.hid hbA; have GA56 := Lib.hid hgA; have SA56 : Hid (w6a.heap.size = w5.heap.size + 1 + 1) := Lib.hid (hsA.trans (by simp)); clear hbA hgA hsA)
    | (refine wpList_store_row_any rfl 31 _ _ rfl (w5.heap.size + 1) vf rfl rfl 31 _ ((BA56.out.same _ (by simp) (by omega)).trans (heap_at _ _ _ (by simp))) Ivf.out (by rw [Zvf.out]; rfl) Ovf.out ?_; intro w6 hbB hgB hsB; have BB56 := Lib.hid hbB; have GB56 := Lib.hid hgB; have SB56 : Hid (w6.heap.size = w5.heap.size + 1 + 1) := Lib.hid (hsB.trans SA56.out); clear hbB hgB hsB))
  have b56 : Below w5.heap.size w5 w6 := (((Below.refl _ _).alloc (Nat.le_refl _) _).alloc (by simp) _).trans (((BA56.out.mono (T := fun k => k = w5.heap.size ∨ k = w5.heap.size + 1) (fun _ _ q => .inl q)).step BB56.out (fun _ _ q => .inr q)).to_below (by simp; omega) (fun k hk q => by omega))
  have GC56 : Hid (w6.heap[w5.heap.size]? = some (.cells vr 29 (0, 0))) := Lib.hid ((BB56.out.same _ (by have := SA56.out; omega) (by omega)).trans GA56.out)
  have RT6 := GC56
  have RF6 := GB56
  clear GA56 GB56 GC56 SA56 BA56 BB56
  go_wp2_with fail
  refine (CRT.out _ _ _ _ w6 (HE.out.step (show Gr w w6 from (by repeat (first | exact Gr.refl _ | (refine Gr.step ?_ (by assumption)) | (refine Gr.alloc ?_ _) | (refine Gr.drew ?_))))) ((T1.out.below (show Gr w3 w6 from (by repeat (first | exact Gr.refl _ | (refine Gr.step ?_ (by assumption)) | (refine Gr.alloc ?_ _) | (refine Gr.drew ?_))))).hin HLP.out.1 HN.out.1) ((T2.out.below (show Gr w4 w6 from (by repeat (first | exact Gr.refl _ | (refine Gr.step ?_ (by assumption)) | (refine Gr.alloc ?_ _) | (refine Gr.drew ?_))))).hin HLP.out.2.1 HN.out.2)).mono ?_
  rintro ev w7 ⟨rfl, b7⟩
  go_upto_region 7 with (refine wpList_store_row_any rfl 29 _ _ rfl w7.heap.size vr rfl rfl 29 _ (heap_at _ _ _ rfl) Ivr.out (by rw [Zvr.out]; rfl) Ovr.out ?_; intro w8 hbN hgN hsN; have b8 : Below w7.heap.size w7 w8 := ((Below.refl _ w7).alloc (Nat.le_refl _) _).trans (hbN.to_below (by simp) (fun k hk q => by omega)); have Rw8 := Lib.hid hgN; clear hbN hgN hsN)
  have RT8 : Hid (w8.heap[w5.heap.size]? = some (.cells vr 29 (0, 0))) := Lib.hid ((Below.block (show Gr w6 w8 from (by repeat (first | exact Gr.refl _ | (refine Gr.step ?_ (by assumption)) | (refine Gr.alloc ?_ _) | (refine Gr.drew ?_)))) _ (Array.getElem?_eq_some_iff.1 RT6.out).1).trans RT6.out)
  go_wp2_with (refine wpList_load_row_g rfl 29 _ rfl w5.heap.size rfl 29 vr (0, 0) _ RT8.out Tryd.underlying29 rfl Ivr.out ?_)
  refine (CV1.out _ _ _ _ w8 (HE.out.step (show Gr w w8 from (by repeat (first | exact Gr.refl _ | (refine Gr.step ?_ (by assumption)) | (refine Gr.alloc ?_ _) | (refine Gr.drew ?_))))) ((T1.out.below (show Gr w3 w8 from (by repeat (first | exact Gr.refl _ | (refine Gr.step ?_ (by assumption)) | (refine Gr.alloc ?_ _) | (refine Gr.drew ?_))))).hin HLP.out.1 HN.out.1) ((T2.out.below (show Gr w4 w8 from (by repeat (first | exact Gr.refl _ | (refine Gr.step ?_ (by assumption)) | (refine Gr.alloc ?_ _) | (refine Gr.drew ?_))))).hin HLP.out.2.1 HN.out.2)).mono ?_
  rintro ev w9 ⟨rfl, b9⟩
  go_wp2_with fail
  refine (CV2.out _ _ _ _ w9 (HE.out.step (show Gr w w9 from (by repeat (first | exact Gr.refl _ | (refine Gr.step ?_ (by assumption)) | (refine Gr.alloc ?_ _) | (refine Gr.drew ?_))))) ((T1.out.below (show Gr w3 w9 from (by repeat (first | exact Gr.refl _ | (refine Gr.step ?_ (by assumption)) | (refine Gr.alloc ?_ _) | (refine Gr.drew ?_))))).hin HLP.out.1 HN.out.1) ((T2.out.below (show Gr w4 w9 from (by repeat (first | exact Gr.refl _ | (refine Gr.step ?_ (by assumption)) | (refine Gr.alloc ?_ _) | (refine Gr.drew ?_))))).hin HLP.out.2.1 HN.out.2)).mono ?_
  rintro ev w10 ⟨rfl, b10⟩
  have KT : Hid (∀ w', Gr w10 w' → w'.heap[w5.heap.size]? = some (.cells vr 29 (0, 0)) ∧ w'.heap[w5.heap.size + 1]? = some (.cells vf 31 (0, 0)) ∧ w'.heap[w7.heap.size]? = some (.cells vr 29 (0, 0))) := Lib.hid (fun w' h =>
    ⟨(Below.block (show Gr w8 w' from (show Gr w8 w10 from (by repeat (first | exact Gr.refl _ | (refine Gr.step ?_ (by assumption)) | (refine Gr.alloc ?_ _) | (refine Gr.drew ?_)))).step h) _ (Array.getElem?_eq_some_iff.1 RT8.out).1).trans RT8.out,
     (Below.block (show Gr w6 w' from (show Gr w6 w10 from (by repeat (first | exact Gr.refl _ | (refine Gr.step ?_ (by assumption)) | (refine Gr.alloc ?_ _) | (refine Gr.drew ?_)))).step h) _ (Array.getElem?_eq_some_iff.1 RF6.out).1).trans RF6.out,
     (Below.block (show Gr w8 w' from (show Gr w8 w10 from (by repeat (first | exact Gr.refl _ | (refine Gr.step ?_ (by assumption)) | (refine Gr.alloc ?_ _) | (refine Gr.drew ?_)))).step h) _ (Array.getElem?_eq_some_iff.1 Rw8.out).1).trans Rw8.out⟩)
  go_wp2_with (first
    | (refine wpList_load_row_g rfl 29 _ rfl w7.heap.size rfl 29 vr (0, 0) _ (KT.out w10 (Gr.refl _)).2.2 Tryd.underlying29 rfl Ivr.out ?_)
    | (refine wpList_load_row_g rfl 29 _ rfl w5.heap.size rfl 29 vr (0, 0) _ (KT.out w10 (Gr.refl _)).1 Tryd.underlying29 rfl Ivr.out ?_)
    | (refine wpList_load_row_g rfl 31 _ rfl (w5.heap.size + 1) rfl 31 vf (0, 0) _ (KT.out w10 (Gr.refl _)).2.1 Tryd.underlying31 rfl Ivf.out ?_))
  refine (SAME0.out w10 (HE.out.step (show Gr w w10 from (by repeat (first | exact Gr.refl _ | (refine Gr.step ?_ (by assumption)) | (refine Gr.alloc ?_ _) | (refine Gr.drew ?_)))))).mono ?_
  rintro ev w11 ⟨rfl, b11⟩
  have d0w11 := cell_below (show Gr wb w11 from (by repeat (first | exact Gr.refl _ | (refine Gr.step ?_ (by assumption)) | (refine Gr.alloc ?_ _) | (refine Gr.drew ?_)))) c0 hwb; have d1w11 := cell_below (show Gr wb w11 from (by repeat (first | exact Gr.refl _ | (refine Gr.step ?_ (by assumption)) | (refine Gr.alloc ?_ _) | (refine Gr.drew ?_)))) c1 hwb
  go_wp2_with (refine wpList_load_row_g rfl 29 _ rfl w5.heap.size rfl 29 vr (0, 0) _ (KT.out w11 b11).1 Tryd.underlying29 rfl Ivr.out ?_)
  refine (CW1.out _ _ _ _ w11 (H1.out.below (show Gr w w11 from (by repeat (first | exact Gr.refl _ | (refine Gr.step ?_ (by assumption)) | (refine Gr.alloc ?_ _) | (refine Gr.drew ?_))))) (H2.out.below (show Gr w w11 from (by repeat (first | exact Gr.refl _ | (refine Gr.step ?_ (by assumption)) | (refine Gr.alloc ?_ _) | (refine Gr.drew ?_)))))).mono ?_
  rintro ev w12 ⟨rfl, b12⟩
  clear d0w11 d1w11
  go_wp2_with fail
  refine (SAME1.out w12 (HE.out.step (show Gr w w12 from (by repeat (first | exact Gr.refl _ | (refine Gr.step ?_ (by assumption)) | (refine Gr.alloc ?_ _) | (refine Gr.drew ?_)))))).mono ?_
  rintro ev w13 ⟨rfl, b13⟩
  have d0w13 := cell_below (show Gr wb w13 from (by repeat (first | exact Gr.refl _ | (refine Gr.step ?_ (by assumption)) | (refine Gr.alloc ?_ _) | (refine Gr.drew ?_)))) c0 hwb; have d1w13 := cell_below (show Gr wb w13 from (by repeat (first | exact Gr.refl _ | (refine Gr.step ?_ (by assumption)) | (refine Gr.alloc ?_ _) | (refine Gr.drew ?_)))) c1 hwb
  go_wp2_with fail
  refine (CW2.out _ _ _ _ w13 (H1.out.below (show Gr w w13 from (by repeat (first | exact Gr.refl _ | (refine Gr.step ?_ (by assumption)) | (refine Gr.alloc ?_ _) | (refine Gr.drew ?_))))) (H2.out.below (show Gr w w13 from (by repeat (first | exact Gr.refl _ | (refine Gr.step ?_ (by assumption)) | (refine Gr.alloc ?_ _) | (refine Gr.drew ?_)))))).mono ?_
  rintro ev w14 ⟨rfl, b14⟩
  clear d0w13 d1w13
  go_wp2_with fail
  refine (SAME2.out w14 (HE.out.step (show Gr w w14 from (by repeat (first | exact Gr.refl _ | (refine Gr.step ?_ (by assumption)) | (refine Gr.alloc ?_ _) | (refine Gr.drew ?_)))))).mono ?_
  rintro ev w15 ⟨rfl, b15⟩
  have d0w15 := cell_below (show Gr wb w15 from (by repeat (first | exact Gr.refl _ | (refine Gr.step ?_ (by assumption)) | (refine Gr.alloc ?_ _) | (refine Gr.drew ?_)))) c0 hwb; have d1w15 := cell_below (show Gr wb w15 from (by repeat (first | exact Gr.refl _ | (refine Gr.step ?_ (by assumption)) | (refine Gr.alloc ?_ _) | (refine Gr.drew ?_)))) c1 hwb
  go_wp2_with fail
  refine (left_any _ n1 k1 A1 L w15 (T1.out.below (show Gr w3 w15 from (by repeat (first | exact Gr.refl _ | (refine Gr.step ?_ (by assumption)) | (refine Gr.alloc ?_ _) | (refine Gr.drew ?_))))) (H1.out.below (show Gr w w15 from (by repeat (first | exact Gr.refl _ | (refine Gr.step ?_ (by assumption)) | (refine Gr.alloc ?_ _) | (refine Gr.drew ?_))))) HN.out.1).mono ?_
  rintro ev w16 ⟨rfl, b16⟩
  have d0w16 := cell_below (show Gr wb w16 from (by repeat (first | exact Gr.refl _ | (refine Gr.step ?_ (by assumption)) | (refine Gr.alloc ?_ _) | (refine Gr.drew ?_)))) c0 hwb; have d1w16 := cell_below (show Gr wb w16 from (by repeat (first | exact Gr.refl _ | (refine Gr.step ?_ (by assumption)) | (refine Gr.alloc ?_ _) | (refine Gr.drew ?_)))) c1 hwb
  clear d0w15 d1w15
  go_wp2_with fail
  refine (left_any _ n2 k2 A2 P w16 (T2.out.below (show Gr w4 w16 from (by repeat (first | exact Gr.refl _ | (refine Gr.step ?_ (by assumption)) | (refine Gr.alloc ?_ _) | (refine Gr.drew ?_))))) (H2.out.below (show Gr w w16 from (by repeat (first | exact Gr.refl _ | (refine Gr.step ?_ (by assumption)) | (refine Gr.alloc ?_ _) | (refine Gr.drew ?_))))) HN.out.2).mono ?_
  rintro ev wL ⟨rfl, b17⟩
  clear d0w16 d1w16
  go_wp2_with fail
  go_loopw [15] (fun i wr => ∃ k : Nat, k ≤ n1 ∧ i = .int .i64 k ∧ Hid (Mix wr w2.heap.size k (bset 7 9) L) ∧ Hid (wr.there w2.heap.size 0 ((L.length + 1) * 32)) ∧ Hid (But (· = w2.heap.size) wL wr) ∧ w2.heap.size < wr.heap.size) (fun i _ => n1 - (intOf i).toNat)
  case atStart => exact ⟨0, Nat.zero_le _, rfl, Lib.hid (Mix.start (T1.out.below (show Gr w3 wL from (by repeat (first | exact Gr.refl _ | (refine Gr.step ?_ (by assumption)) | (refine Gr.alloc ?_ _) | (refine Gr.drew ?_)))))), Lib.hid (T1.out.below (show Gr w3 wL from (by repeat (first | exact Gr.refl _ | (refine Gr.step ?_ (by assumption)) | (refine Gr.alloc ?_ _) | (refine Gr.drew ?_))))).2.2, Lib.hid (But.refl _ _), (T1.out.below (show Gr w3 wL from (by repeat (first | exact Gr.refl _ | (refine Gr.step ?_ (by assumption)) | (refine Gr.alloc ?_ _) | (refine Gr.drew ?_))))).lt⟩
  case round =>
    obtain ⟨k, hk, rfl, HX, HT, HBW, hsz⟩ := hrel
    by_cases hlt : k < n1
    · obtain ⟨y, hy⟩ : ∃ y, L[k]? = some y := ⟨_, List.getElem?_eq_getElem (by have := HLP.out.1; omega)⟩
      have hc := byte_cell HX.out HLP.out.2.2.1 hy (by omega)
      have hx := byte_xor (y.getD 7 0) 9
      have HS : Hid (Mix (wr.setCell ⟨w2.heap.size, k * 32 + 7, none⟩ (byteV (y.getD 7 0 ^^^ 9))) w2.heap.size (k + 1) (bset 7 9) L) := Lib.hid (HX.out.step HLP.out.2.2.1 hy (by omega) HT.out)
      have hcl : ((y.getD 7 0).toNat : Int) < 256 := by have := (y.getD 7 0).toNat_lt; omega
      have hfr : wr.frozen? ⟨w2.heap.size, k * 32 + 7, none⟩ = false := by have := (HT.out (k * 32 + 7) (by have := HLP.out.1; omega)).2; rwa [Nat.zero_add] at this
      obtain ⟨c, hcc⟩ : ∃ c : Nat, (y.getD 7 0).toNat = c := ⟨_, rfl⟩
      obtain ⟨d, hdd⟩ : ∃ d : Nat, (y.getD 7 0 ^^^ 9).toNat = d := ⟨_, rfl⟩
      rw [hcc] at hc hx hcl
      rw [hdd] at hx
      rw [show byteV (y.getD 7 0 ^^^ 9) = .int .u8 (d : Int) by unfold byteV; rw [hdd]] at HS
      have hx : bits .xor .u8 (c : Int) 9 = (d : Int) := hx
      have i0 : (0 : Int) ≤ k := by omega
      have i1 : (k : Int) < n1 := by omega
      have hm9 := HN.out
      clear hy hcc hdd hlt
      go_upto_region 16 with fail
      go_region
      obtain ⟨wn, hwn⟩ : ∃ z, (wr.setCell ⟨w2.heap.size, k * 32 + 7, none⟩ (.int .u8 (d : Int))).drew = z := ⟨_, rfl⟩
      have hnb : ∀ q : Nat, wn.heap[q]? = (wr.setCell ⟨w2.heap.size, k * 32 + 7, none⟩ (.int .u8 (d : Int))).heap[q]? := fun q => by rw [← hwn]; rfl
      have HM2 : Hid (Mix wn w2.heap.size (k + 1) (bset 7 9) L) := Lib.hid (fun i z hi => rangeAt_block (hnb _) (HS.out i z hi))
      have HT2 : Hid (wn.there w2.heap.size 0 ((L.length + 1) * 32)) := Lib.hid (there_block (show (wr.setCell ⟨w2.heap.size, k * 32 + 7, none⟩ (.int .u8 (d : Int))).there w2.heap.size 0 ((L.length + 1) * 32) from World.there_setCells HT.out w2.heap.size (k * 32 + 7) [.int .u8 (d : Int)]) (hnb _))
      have HB2 : Hid (But (· = w2.heap.size) wL wn) := Lib.hid (by rw [← hwn]; exact (HBW.out.setCell w2.heap.size _ _ (fun _ => rfl)).drew)
      have hsz2 : w2.heap.size < wn.heap.size := by rw [← hwn]; simpa using hsz
      rw [hwn]
      clear hwn hnb hc hx hcl hfr
      go_wp2_with fail
      go_roundw
      case rel => exact ⟨k + 1, by omega, by go_num, HM2, HT2, HB2, hsz2⟩
      case measure => simp [intOf]; omega
    · obtain rfl : n1 = k := by omega
      obtain ⟨wP, rfl⟩ : ∃ z, z = wr := ⟨_, rfl⟩
      have HSZ : Hid (w.heap.size ≤ w2.heap.size ∧ w2.heap.size < w3.heap.size ∧ w3.heap.size < w4.heap.size ∧ w4.heap.size ≤ w5.heap.size ∧ w5.heap.size + 2 ≤ w7.heap.size) := Lib.hid ⟨(show Gr w w2 from (by repeat (first | exact Gr.refl _ | (refine Gr.step ?_ (by assumption)) | (refine Gr.alloc ?_ _) | (refine Gr.drew ?_)))).size, T1.out.lt, T2.out.lt, b5.size, by have := SB56.out; have := b7.size; omega⟩
      have T1P : Hid (Twin wP w2.heap.size (L.map (bset 7 9))) := Lib.hid (by
        have := HLP.out.1
        rw [← this] at HX
        exact HX.out.end (h32_bset HLP.out.2.2.1) HT.out)
      have T2P : Hid (Twin wP w3.heap.size P) := Lib.hid ((T2.out.below (show Gr w4 wL from (by repeat (first | exact Gr.refl _ | (refine Gr.step ?_ (by assumption)) | (refine Gr.alloc ?_ _) | (refine Gr.drew ?_))))).same (HBW.out.same _ (T2.out.below (show Gr w4 wL from (by repeat (first | exact Gr.refl _ | (refine Gr.step ?_ (by assumption)) | (refine Gr.alloc ?_ _) | (refine Gr.drew ?_))))).lt (by have := HSZ.out; omega)))
      have BLP := HBW
      clear HX HT HBW
      go_wp2_with fail
      go_loopw [16] (fun i wr => ∃ k : Nat, k ≤ n2 ∧ i = .int .i64 k ∧ Hid (Mix wr w3.heap.size k (bset 31 8) P) ∧ Hid (wr.there w3.heap.size 0 ((P.length + 1) * 32)) ∧ Hid (But (· = w3.heap.size) wP wr) ∧ w3.heap.size < wr.heap.size) (fun i _ => n2 - (intOf i).toNat)
      case atStart => exact ⟨0, Nat.zero_le _, rfl, Lib.hid (Mix.start T2P.out), Lib.hid T2P.out.2.2, Lib.hid (But.refl _ _), T2P.out.lt⟩
      case round =>
        obtain ⟨k, hk, rfl, HX, HT, HBW, hsz⟩ := hrel
        by_cases hlt : k < n2
        · obtain ⟨y, hy⟩ : ∃ y, P[k]? = some y := ⟨_, List.getElem?_eq_getElem (by have := HLP.out.2.1; omega)⟩
          have hc := byte_cell HX.out HLP.out.2.2.2 hy (by omega)
          have hx := byte_xor (y.getD 31 0) 8
          have HS : Hid (Mix (wr.setCell ⟨w3.heap.size, k * 32 + 31, none⟩ (byteV (y.getD 31 0 ^^^ 8))) w3.heap.size (k + 1) (bset 31 8) P) := Lib.hid (HX.out.step HLP.out.2.2.2 hy (by omega) HT.out)
          have hcl : ((y.getD 31 0).toNat : Int) < 256 := by have := (y.getD 31 0).toNat_lt; omega
          have hfr : wr.frozen? ⟨w3.heap.size, k * 32 + 31, none⟩ = false := by have := (HT.out (k * 32 + 31) (by have := HLP.out.2.1; omega)).2; rwa [Nat.zero_add] at this
          obtain ⟨c, hcc⟩ : ∃ c : Nat, (y.getD 31 0).toNat = c := ⟨_, rfl⟩
          obtain ⟨d, hdd⟩ : ∃ d : Nat, (y.getD 31 0 ^^^ 8).toNat = d := ⟨_, rfl⟩
          rw [hcc] at hc hx hcl
          rw [hdd] at hx
          rw [show byteV (y.getD 31 0 ^^^ 8) = .int .u8 (d : Int) by unfold byteV; rw [hdd]] at HS
          have hx : bits .xor .u8 (c : Int) 8 = (d : Int) := hx
          have i0 : (0 : Int) ≤ k := by omega
          have i1 : (k : Int) < n2 := by omega
          have hm9 := HN.out
          clear hy hcc hdd hlt
          go_upto_region 20 with fail
          go_region
          obtain ⟨wn, hwn⟩ : ∃ z, (wr.setCell ⟨w3.heap.size, k * 32 + 31, none⟩ (.int .u8 (d : Int))).drew = z := ⟨_, rfl⟩
          have hnb : ∀ q : Nat, wn.heap[q]? = (wr.setCell ⟨w3.heap.size, k * 32 + 31, none⟩ (.int .u8 (d : Int))).heap[q]? := fun q => by rw [← hwn]; rfl
          have HM2 : Hid (Mix wn w3.heap.size (k + 1) (bset 31 8) P) := Lib.hid (fun i z hi => rangeAt_block (hnb _) (HS.out i z hi))
          have HT2 : Hid (wn.there w3.heap.size 0 ((P.length + 1) * 32)) := Lib.hid (there_block (show (wr.setCell ⟨w3.heap.size, k * 32 + 31, none⟩ (.int .u8 (d : Int))).there w3.heap.size 0 ((P.length + 1) * 32) from World.there_setCells HT.out w3.heap.size (k * 32 + 31) [.int .u8 (d : Int)]) (hnb _))
          have HB2 : Hid (But (· = w3.heap.size) wP wn) := Lib.hid (by rw [← hwn]; exact (HBW.out.setCell w3.heap.size _ _ (fun _ => rfl)).drew)
          have hsz2 : w3.heap.size < wn.heap.size := by rw [← hwn]; simpa using hsz
          rw [hwn]
          clear hwn hnb hc hx hcl hfr
          go_wp2_with fail
          go_roundw
          case rel => exact ⟨k + 1, by omega, by go_num, HM2, HT2, HB2, hsz2⟩
          case measure => simp [intOf]; omega
        · obtain rfl : n2 = k := by omega
          obtain ⟨wQ, rfl⟩ : ∃ z, z = wr := ⟨_, rfl⟩
          have T2Q : Hid (Twin wQ w3.heap.size (P.map (bset 31 8))) := Lib.hid (by
            have := HLP.out.2.1
            rw [← this] at HX
            exact HX.out.end (h32_bset HLP.out.2.2.2) HT.out)
          have T1Q : Hid (Twin wQ w2.heap.size (L.map (bset 7 9))) := Lib.hid (T1P.out.same (HBW.out.same _ T1P.out.lt (by have := HSZ.out; omega)))
          have BQ : Hid (∀ j, j < wL.heap.size → j ≠ w2.heap.size → j ≠ w3.heap.size → wQ.heap[j]? = wL.heap[j]?) := Lib.hid (fun j h1 h2 h3 => (HBW.out.same j (by have := BLP.out.size; omega) h3).trans (BLP.out.same j h1 h2))
          have GQ : Hid (Gr w wQ) := Lib.hid (show Below w.heap.size w wQ from (show Below w.heap.size w wL from (show Gr w wL from (by repeat (first | exact Gr.refl _ | (refine Gr.step ?_ (by assumption)) | (refine Gr.alloc ?_ _) | (refine Gr.drew ?_))))).trans ((BLP.out.to_below (B := w.heap.size) (show Gr w wL from (by repeat (first | exact Gr.refl _ | (refine Gr.step ?_ (by assumption)) | (refine Gr.alloc ?_ _) | (refine Gr.drew ?_)))).size (fun k hk q => by have := HSZ.out; omega)).trans (HBW.out.to_below (by have := BLP.out.size; have := (show Gr w wL from (by repeat (first | exact Gr.refl _ | (refine Gr.step ?_ (by assumption)) | (refine Gr.alloc ?_ _) | (refine Gr.drew ?_)))).size; omega) (fun k hk q => by have := HSZ.out; omega))))
          have LQ : Hid (w7.heap.size < wL.heap.size ∧ wL.heap.size ≤ wQ.heap.size) := Lib.hid ⟨(Array.getElem?_eq_some_iff.1 (KT.out wL (show Gr w10 wL from (by repeat (first | exact Gr.refl _ | (refine Gr.step ?_ (by assumption)) | (refine Gr.alloc ?_ _) | (refine Gr.drew ?_))))).2.2).1, by have := BLP.out.size; have := HBW.out.size; omega⟩
          have KQ : Hid (wQ.heap[w5.heap.size]? = some (.cells vr 29 (0, 0)) ∧ wQ.heap[w5.heap.size + 1]? = some (.cells vf 31 (0, 0)) ∧ wQ.heap[w7.heap.size]? = some (.cells vr 29 (0, 0))) := Lib.hid (by
            have hk := KT.out wL (show Gr w10 wL from (by repeat (first | exact Gr.refl _ | (refine Gr.step ?_ (by assumption)) | (refine Gr.alloc ?_ _) | (refine Gr.drew ?_))))
            have hz := HSZ.out
            have hl := LQ.out
            exact ⟨(BQ.out _ (by omega) (by omega) (by omega)).trans hk.1, (BQ.out _ (by omega) (by omega) (by omega)).trans hk.2.1, (BQ.out _ (by omega) (by omega) (by omega)).trans hk.2.2⟩)
          have HEQ : Hid (Env B a wQ) := Lib.hid (HE.out.step GQ.out)
          have HN2 : Hid ((L.map (bset 7 9)).length = n1 ∧ (P.map (bset 31 8)).length = n2) := Lib.hid (by rw [List.length_map, List.length_map]; exact ⟨HLP.out.1, HLP.out.2.1⟩)
          clear HX HT HBW BLP
          obtain ⟨L2, hL2⟩ : ∃ z, L.map (bset 7 9) = z := ⟨_, rfl⟩
          obtain ⟨P2, hP2⟩ : ∃ z, P.map (bset 31 8) = z := ⟨_, rfl⟩
          rw [hL2] at T1Q HN2
          rw [hP2] at T2Q HN2
          have lrt : (rootK x sz L2 P2).length = 32 := rootK_len T1Q.out.1 T2Q.out.1 HXB.out.2.2.1 HXB.out.1
          obtain ⟨vr2, evr2, _, Zvr2, Ivr2, Ovr2⟩ := row_of _ lrt
          have hK2 : batchK x sz L2.length P2.length = K := by rw [HN2.out.1, HN2.out.2, ← HLP.out.1, ← HLP.out.2.1]; exact HK.out
          have CRR2 : Hid (∀ (A A' : Option Addr) (c c' : Nat) w, HIn w A n1 c L2 → HIn w A' n2 c' P2 → Calls Tryd.prog 14 #[.int .u64 x, .int .u64 sz, .slice A n1 c, .slice A' n2 c'] w fun ev w' => ev = .returned (.tuple #[.agg vr2, .agg vf]) ∧ Below w.heap.size w w') := Lib.hid (fun A A' c c' w q1 q2 => by
            have := refroot_gen x sz A A' n1 n2 c c' L2 P2 w q1 q2 HXB.out.1 HXB.out.2.1 HXB.out.2.2.1 HXB.out.2.2.2
            rw [hK2, evr2, EF0.out.1] at this; exact this)
          have CRT2 : Hid (∀ (A A' : Option Addr) (c c' : Nat) w, Env B a w → HIn w A n1 c L2 → HIn w A' n2 c' P2 → Calls Tryd.prog 15 #[.int .u64 x, .int .u64 sz, .slice A n1 c, .slice A' n2 c'] w fun ev w' => ev = .returned (.tuple #[.agg vr2, e0]) ∧ Below w.heap.size w w') := Lib.hid (fun A A' c c' w hh q1 q2 => by
            have := root_gen a B x sz A A' n1 n2 c c' L2 P2 w hh q1 q2 HXB.out.1 HXB.out.2.1 HXB.out.2.2.1 HXB.out.2.2.2
            rw [hK2, evr2, EF0.out.2] at this; exact this)
          have hqr2 : ∀ w, (Op.equalIn 10000 29 (.agg vr2) (.agg vr2)).run Tryd.prog w = .ok true w := fun w => by rw [eq_hash _ _ lrt lrt vr2 vr2 evr2 evr2 w]; simp
          clear hL2 hP2 lrt evr2 hK2 hsz
          go_wp2_with fail
          refine (twin_any _ n1 (n1 + 1) L2 wQ (T1Q.out.hin HN2.out.1 HN.out.1) HN.out.1).mono ?_
          rintro ev w18 ⟨rfl, t18, b18⟩
          have T18 := Lib.hid t18
          clear t18
          go_wp2_with fail
          refine (twin_any _ n2 (n2 + 1) P2 w18 ((T2Q.out.below b18).hin HN2.out.2 HN.out.2) HN.out.2).mono ?_
          rintro ev w19 ⟨rfl, t19, b19⟩
          have T19 := Lib.hid t19
          clear t19
          go_wp2_with fail
          refine (CRR2.out _ _ _ _ w19 ((T18.out.below b19).hin HN2.out.1 HN.out.1) (T19.out.hin HN2.out.2 HN.out.2)).mono ?_
          rintro ev w20 ⟨rfl, b20⟩
          have KW : Hid (∀ j, j < wL.heap.size → w20.heap[j]? = wQ.heap[j]?) := Lib.hid (fun j hj => (Below.block (show Gr wQ w20 from (by repeat (first | exact Gr.refl _ | (refine Gr.step ?_ (by assumption)) | (refine Gr.alloc ?_ _) | (refine Gr.drew ?_)))) j (by have := LQ.out; omega)))
          go_upto_region 22 with (first
            | (refine wpList_store_row_any rfl 29 _ _ rfl w5.heap.size vr2 rfl rfl 29 _ ((KW.out _ (by have := LQ.out; have := HSZ.out; omega)).trans KQ.out.1) Ivr2.out (by rw [Zvr.out, Zvr2.out]) Ovr2.out ?_; intro w21 hb21 hg21 hs21; have B21 := Lib.hid hb21; have G21 := Lib.hid hg21; have S21 := Lib.hid hs21; clear hb21 hg21 hs21)
            | (refine wpList_store_row_any rfl 31 _ _ rfl (w5.heap.size + 1) vf rfl rfl 31 _ ((B21.out.same _ (by have := LQ.out; have := HSZ.out; have := (show Gr wQ w20 from (by repeat (first | exact Gr.refl _ | (refine Gr.step ?_ (by assumption)) | (refine Gr.alloc ?_ _) | (refine Gr.drew ?_)))).size; omega) (by omega)).trans ((KW.out _ (by have := LQ.out; have := HSZ.out; omega)).trans KQ.out.2.1)) Ivf.out rfl Ovf.out ?_; intro w22 hb22 hg22 hs22; have B22 := Lib.hid hb22; have G22 := Lib.hid hg22; have S22 := Lib.hid hs22; clear hb22 hg22 hs22))
          have S20 : Hid (wQ.heap.size ≤ w20.heap.size) := Lib.hid (show Gr wQ w20 from (by repeat (first | exact Gr.refl _ | (refine Gr.step ?_ (by assumption)) | (refine Gr.alloc ?_ _) | (refine Gr.drew ?_)))).size
          have BW : Hid (∀ j, j < wL.heap.size → j ≠ w5.heap.size → j ≠ w5.heap.size + 1 → w22.heap[j]? = wQ.heap[j]?) := Lib.hid (fun j h1 h2 h3 => (B22.out.same j (by have := S21.out; have := S20.out; have := LQ.out; omega) h3).trans ((B21.out.same j (by have := S20.out; have := LQ.out; omega) h2).trans (KW.out j h1)))
          have T1W : Hid (Twin w22 w2.heap.size L2) := Lib.hid (T1Q.out.same (BW.out _ (by have := HSZ.out; have := LQ.out; omega) (by have := HSZ.out; omega) (by have := HSZ.out; omega)))
          have T2W : Hid (Twin w22 w3.heap.size P2) := Lib.hid (T2Q.out.same (BW.out _ (by have := HSZ.out; have := LQ.out; omega) (by have := HSZ.out; omega) (by have := HSZ.out; omega)))
          have GW : Hid (Below w.heap.size w w22) := Lib.hid (((show Below w.heap.size w w20 from GQ.out.step (show Gr wQ w20 from (by repeat (first | exact Gr.refl _ | (refine Gr.step ?_ (by assumption)) | (refine Gr.alloc ?_ _) | (refine Gr.drew ?_))))).trans (B21.out.to_below (by have := S20.out; have := GQ.out.size; omega) (fun k hk q => by have := HSZ.out; omega))).trans (B22.out.to_below (by have := S20.out; have := S21.out; have := GQ.out.size; omega) (fun k hk q => by have := HSZ.out; omega)))
          have KX : Hid (w22.heap[w5.heap.size]? = some (.cells vr2 29 (0, 0)) ∧ w22.heap[w5.heap.size + 1]? = some (.cells vf 31 (0, 0)) ∧ w22.heap[w7.heap.size]? = some (.cells vr 29 (0, 0))) := Lib.hid ⟨(B22.out.same _ (Array.getElem?_eq_some_iff.1 G21.out).1 (by omega)).trans G21.out, G22.out, (BW.out _ LQ.out.1 (by have := HSZ.out; omega) (by have := HSZ.out; omega)).trans KQ.out.2.2⟩
          go_wp2_with fail
          refine (CRT2.out _ _ _ _ w22 (HE.out.step GW.out) (T1W.out.hin HN2.out.1 HN.out.1) (T2W.out.hin HN2.out.2 HN.out.2)).mono ?_
          rintro ev w23 ⟨rfl, b23⟩
          have KY : Hid (w23.heap[w5.heap.size]? = some (.cells vr2 29 (0, 0)) ∧ w23.heap[w5.heap.size + 1]? = some (.cells vf 31 (0, 0)) ∧ w23.heap[w7.heap.size]? = some (.cells vr 29 (0, 0))) := Lib.hid ⟨(b23.block _ (Array.getElem?_eq_some_iff.1 KX.out.1).1).trans KX.out.1, (b23.block _ (Array.getElem?_eq_some_iff.1 KX.out.2.1).1).trans KX.out.2.1, (b23.block _ (Array.getElem?_eq_some_iff.1 KX.out.2.2).1).trans KX.out.2.2⟩
          have GY : Hid (Below w.heap.size w w23) := Lib.hid (GW.out.trans (b23.mono GW.out.size))
          clear b23
          go_upto_region 23 with (refine wpList_store_row_any rfl 29 _ _ rfl w7.heap.size vr2 rfl rfl 29 _ KY.out.2.2 Ivr2.out (by rw [Zvr.out, Zvr2.out]) Ovr2.out ?_; intro w24 hb24 hg24 hs24; have B24 := Lib.hid hb24; have G24 := Lib.hid hg24; have S24 := Lib.hid hs24; clear hb24 hg24 hs24)
          have KZ : Hid (w24.heap[w5.heap.size]? = some (.cells vr2 29 (0, 0)) ∧ w24.heap[w5.heap.size + 1]? = some (.cells vf 31 (0, 0))) := Lib.hid ⟨(B24.out.same _ (Array.getElem?_eq_some_iff.1 KY.out.1).1 (by have := HSZ.out; omega)).trans KY.out.1, (B24.out.same _ (Array.getElem?_eq_some_iff.1 KY.out.2.1).1 (by have := HSZ.out; omega)).trans KY.out.2.1⟩
          have GZ : Hid (Below w.heap.size w w24) := Lib.hid (GY.out.trans (B24.out.to_below (by have := GY.out.size; omega) (fun k hk q => by have := HSZ.out; omega)))
          go_wp2_with (first
            | (refine wpList_load_row_g rfl 29 _ rfl w7.heap.size rfl 29 vr2 (0, 0) _ G24.out Tryd.underlying29 rfl Ivr2.out ?_)
            | (refine wpList_load_row_g rfl 29 _ rfl w5.heap.size rfl 29 vr2 (0, 0) _ KZ.out.1 Tryd.underlying29 rfl Ivr2.out ?_)
            | (refine wpList_load_row_g rfl 31 _ rfl (w5.heap.size + 1) rfl 31 vf (0, 0) _ KZ.out.2 Tryd.underlying31 rfl Ivf.out ?_))
          refine (SAME0.out w24 (HE.out.step GZ.out)).mono ?_
          rintro ev w25 ⟨rfl, b25⟩
          go_wp2_with fail
          go_ret
          exact ⟨rfl, GZ.out.trans (b25.mono GZ.out.size)⟩

end Go.Proofs.YtmfngcnmacjbfaaDoor
