import Derived.Test.YtaekabhcgdjhfaaDoorTexts
import Derived.Deep.Strs
import Derived.Deep.Slices
import Derived.SizedLaws
import Derived.Test.YtaekabhcgdjhfaaDoorHashMem
import Derived.Test.YtaekabhcgdjhfaaDoorForgeApi
import Derived.MapKept
import Derived.Test.YtaekabhcgdjhfaaDoorNaiveHashes
import Derived.BigRegion
import Derived.Deep.DeepCutAuto
import Derived.Test.YtaekabhcgdjhfaaDoorVerifyIncl
import Derived.ChangeKeysEq
import Derived.Test.YtaekabhcgdjhfaaDoorBeyond
/- Arguments as the reader reads them: lists of texts; a stretch. -/
namespace Go.Proofs.YtaekabhcgdjhfaaDoor
open Go.ChangeShapes Go.WideShapes Go.ChangeAt Go.RowKit Go.Deep
set_option linter.unusedVariables false
section
variable {H : Type} {enc : TypeId × Value → H} {W : World} {base : Nat} {spare : Nat → Bool} {held : Bool}
theorem weightsAll_mem {P : Program} {e : TypeId} : ∀ {ds : List (DataW H)} {d : DataW H}, d ∈ ds → ∀ z ∈ d.weights P e, z ∈ DataW.weightsAll P e ds
  | x :: r, d, hd, z, hz => by
    simp only [DataW.weightsAll, List.mem_append]
    rcases List.mem_cons.1 hd with rfl | hd
    · exact .inl hz
    · exact .inr (weightsAll_mem hd z hz)
  | [], d, hd, z, hz => by simp at hd
theorem texts_arg {n : Nat} {cs : Array Value} {x : DataW H × List MemPlace}
    (h : DataW.trod enc Tryd.prog W base spare held n 22 cs.toList = some x) (hw : ∀ z ∈ x.1.weights Tryd.prog 22, z ≤ reachBytes) :
    ∃ A n c l, cs = #[.slice A n c] ∧ SIn W A n c l := by
  have hr := reachBytes_lt
  have c1 : Tryd.prog.cellsOf 9 = 1 := by kernel_rfl
  rcases open_strings Tryd.underlying22 Tryd.underlying9 c1 h with ⟨hcs, hx⟩ | ⟨a, len, cap, ss, hcs, _, hl, hm, hz, hx, hcell, hsz⟩
  · refine ⟨none, 0, 0, [], ?_, rfl, Nat.le_refl _, by omega, by simp, by omega, .inl rfl⟩
    cases cs; simp at hcs; rw [hcs]
  · subst hx
    have hb : Tryd.prog.bytesOf 9 = 16 := by kernel_rfl
    have hlen : (ss.take len).length = len := by rw [List.length_take]; split at hz <;> omega
    have h1 : ∀ z ∈ (DataW.slice (strs (H := H) (ss.take len)) (strs (ss.drop len))).weights Tryd.prog 22, z ≤ reachBytes := hw
    simp only [DataW.weights, Tryd.underlying22, List.mem_cons, List.mem_append] at h1
    have h2 := h1 _ (.inl rfl)
    rw [hb] at h2
    have h3 : len ≤ 140737488355328 := by simp only [strs, List.length_map] at h2; rw [hlen] at h2; omega
    refine ⟨some a, len, cap, ss.take len, ?_, hlen, hl, by unfold maxLen at hm; omega, ?_, h3, ?_⟩
    · cases cs; simp at hcs; rw [hcs]
    · intro s hs
      have := h1 s.size (.inr (.inl (weightsAll_mem (d := .lit (.string s.data.toList)) (by simp only [strs, List.mem_map]; exact ⟨s, hs, rfl⟩) _ (by simp [DataW.weights]))))
      omega
    · by_cases h0 : ss.take len = []
      · exact .inl h0
      · right
        obtain ⟨b, o, sp⟩ := a
        have hpos : 0 < (ss.take len).length := List.length_pos_iff.2 h0
        have hcl : ∀ j u, ((ss.take len).map Value.string)[j]? = some u → W.cell? ((⟨b, o, sp⟩ : Addr).add j) = some u := fun j u hu => by
          have hj := (List.getElem?_eq_some_iff.1 hu).1
          rw [List.length_map, hlen] at hj
          have hjs : j < ss.length := by split at hz <;> omega
          rw [hcell j hjs]
          rw [List.getElem?_map, List.getElem?_take_of_lt hj, List.getElem?_eq_getElem hjs] at hu
          rw [List.getD_eq_getElem?_getD, List.getElem?_eq_getElem hjs]; simpa using hu
        obtain ⟨u, hu⟩ : ∃ u, ((ss.take len).map Value.string)[0]? = some u := ⟨_, List.getElem?_eq_getElem (by rw [List.length_map]; omega)⟩
        have hspot : sp = none := by simpa [Addr.add] using World.cell?_spot (hcl 0 u hu)
        subst hspot
        exact ⟨b, o, rfl, fun j v hj => by rw [← Addr.add_mid]; exact hcl j v hj⟩
theorem pair_open {P : Program} {t : TypeId} {f0 f1 : Field} {n : Nat} {cs : List Value} {x : DataW H × List MemPlace} (ht : P.underlying t = some (.struct #[f0, f1])) (o0 : f0.offset = 0) (o1 : f1.offset = 1)
    (hc : P.cellsOf t = 2) (c0 : P.cellsOf f0.type = 1) (c1 : P.cellsOf f1.type = 1) (s0 : P.underlying f0.type = some (.int .u64)) (s1 : P.underlying f1.type = some (.int .u64))
    (h : DataW.trod enc P W base spare held n t cs = some x) : ∃ b e, cs = [.int .u64 b, .int .u64 e] ∧ 0 ≤ b ∧ b < 18446744073709551616 ∧ 0 ≤ e ∧ e < 18446744073709551616 := by
  obtain ⟨y0, y1, m, hx0, hl, h0, h1⟩ := trod_struct2 ht h
  rw [hc] at hl
  rw [o0, c0] at h0
  rw [o1, c1] at h1
  match cs, hl with
  | [x0, x1], _ =>
    obtain ⟨b, e0, _, hw0⟩ := DataW.trod_int s0 h0
    obtain ⟨e, e1, _, hw1⟩ := DataW.trod_int s1 h1
    simp at e0 e1
    subst e0 e1
    have q0 := wf_u64 hw0
    have q1 := wf_u64 hw1
    exact ⟨b, e, rfl, q0.1, q0.2, q1.1, q1.2⟩
theorem span_arg {n : Nat} {cs : Array Value} {x : DataW H × List MemPlace} (h : DataW.trod enc Tryd.prog W base spare held n 82 cs.toList = some x) :
    ∃ b e, cs = #[.int .u64 b, .int .u64 e] ∧ 0 ≤ b ∧ b < 18446744073709551616 ∧ 0 ≤ e ∧ e < 18446744073709551616 := by
  obtain ⟨b, e, hcs, q⟩ := pair_open Tryd.underlying82 rfl rfl (by kernel_rfl) (by kernel_rfl) (by kernel_rfl) (by kernel_rfl) (by kernel_rfl) h
  refine ⟨b, e, ?_, q⟩
  cases cs
  simp at hcs
  rw [hcs]
end
end Go.Proofs.YtaekabhcgdjhfaaDoor

/- Arguments as the reader reads them: lists of hashes, a struct of two such lists and a number. No program in sight. -/
namespace Go.Proofs.YtaekabhcgdjhfaaDoor
open Go.ChangeShapes Go.WideShapes Go.ChangeAt Go.RowKit Go.Deep
set_option linter.unusedVariables false
section
variable {H : Type} {enc : TypeId × Value → H} {P : Program} {w : World} {base : Nat} {spare : Nat → Bool} {held : Bool}
theorem byte_open {e : TypeId} {n : Nat} {cs : List Value} {x : DataW H × List MemPlace} (he : P.underlying e = some (.int .u8)) (h : DataW.trod enc P w base spare held n e cs = some x) : ∃ b : UInt8, cs = [byteV b] := by
  obtain ⟨m, rfl, rfl, hw⟩ := DataW.trod_int he h
  have hb := wf_u8 hw
  refine ⟨UInt8.ofNat (m % 256).toNat, ?_⟩
  rw [byteV_ofInt, Int.emod_eq_of_lt hb.1 hb.2]
theorem bytes_of_each : ∀ (cs : List Value), (∀ i, i < cs.length → ∃ b : UInt8, (cs.drop i).take 1 = [byteV b]) → ∃ l : List UInt8, cs = bytesV l
  | [], _ => ⟨[], rfl⟩
  | v :: r, h => by
    obtain ⟨b, hb⟩ := h 0 (by simp)
    simp at hb
    obtain ⟨l, rfl⟩ := bytes_of_each r (fun i hi => by simpa using h (i + 1) (by simpa using hi))
    exact ⟨b :: l, by rw [hb]; rfl⟩
theorem hash_open {t e : TypeId} {n k : Nat} {cs : List Value} {x : DataW H × List MemPlace} (ht : P.underlying t = some (.array k e)) (he : P.underlying e = some (.int .u8)) (hce : P.cellsOf e = 1) (hct : P.cellsOf t = k)
    (h : DataW.trod enc P w base spare held n t cs = some x) : ∃ l : List UInt8, l.length = k ∧ cs = bytesV l := by
  obtain ⟨xs, m, rfl, _, hl, hxl, hel⟩ := DataW.trod_array ht h
  rw [hct] at hl
  obtain ⟨l, rfl⟩ := bytes_of_each cs (fun i hi => by
    have := hel i (by omega)
    rw [hce, Nat.mul_one] at this
    obtain ⟨y, hy⟩ : ∃ y, xs[i]? = some y := ⟨_, List.getElem?_eq_getElem (by omega)⟩
    rw [hy] at this
    exact byte_open he this)
  exact ⟨l, by rw [← hl, bytesV_length], rfl⟩
theorem collect_list {α : Type} {Q : Nat → α → Prop} : ∀ (n : Nat), (∀ i, i < n → ∃ y, Q i y) → ∃ L : List α, L.length = n ∧ ∀ i y, L[i]? = some y → Q i y
  | 0, _ => ⟨[], rfl, fun i y h => by simp at h⟩
  | n + 1, h => by
    obtain ⟨L, hL, hq⟩ := collect_list n (fun i hi => h i (by omega))
    obtain ⟨y, hy⟩ := h n (by omega)
    refine ⟨L ++ [y], by simp [hL], fun i z hz => ?_⟩
    by_cases hi : i < n
    · rw [List.getElem?_append_left (by omega)] at hz; exact hq i z hz
    · rw [List.getElem?_append_right (by omega)] at hz
      obtain rfl : i = n := by have := (List.getElem?_eq_some_iff.1 hz).1; simp at this; omega
      simp [hL] at hz; subst hz; exact hy
theorem hashes_open {t q e : TypeId} {n : Nat} {cs : List Value} {x : DataW H × List MemPlace} (hs : P.underlying t = some (.slice q)) (hq : P.underlying q = some (.array 32 e)) (he : P.underlying e = some (.int .u8)) (hce : P.cellsOf e = 1) (hcq : P.cellsOf q = 32)
    (h : DataW.trod enc P w base spare held n t cs = some x) : ∃ A len cap l, cs = [.slice A len cap] ∧ HRd w (.slice A len cap) l ∧ l.length = len ∧ cap ≤ maxLen ∧ ∀ b, (∀ z ∈ x.1.weights P t, z ≤ b) → len * P.bytesOf q ≤ b := by
  rcases open_slice hs h with ⟨rfl, rfl⟩ | ⟨a, len, cap, m, k, D, Pl, rfl, hb, hl, hm, hmm, rfl, hx⟩
  · exact ⟨none, 0, 0, [], rfl, ⟨H32.nil, none, 0, rfl, Nat.le_refl _, .inl rfl⟩, rfl, Nat.zero_le _, fun b _ => by simp⟩
  · have hlm : len ≤ m := by rw [hmm]; split <;> omega
    obtain ⟨L, hL, hQ⟩ := collect_list (Q := fun i y => y.length = 32 ∧ ∀ j, j < 32 → w.cell? (a.add (i * 32 + j)) = (bytesV y)[j]?) len (fun i hi => by
      obtain ⟨cs', h1, h2⟩ := hx i (by omega)
      rw [hcq] at h1
      obtain ⟨_, _, h3⟩ := World.cells?_some h1
      obtain ⟨y, hy, rfl⟩ := hash_open hq he hce hcq h2
      exact ⟨y, hy, fun j hj => by rw [← add_add]; exact h3 j hj⟩)
    have h32 : H32 L := fun y hy => by
      obtain ⟨i, hi⟩ := List.getElem?_of_mem hy
      exact (hQ i y hi).1
    refine ⟨_, len, cap, L, rfl, ⟨h32, _, cap, by rw [hL], by omega, ?_⟩, hL, hm, fun b hb => Nat.le_trans (Nat.mul_le_mul_right _ (Nat.le_add_right len (m - len))) (hb _ (by simp [DataW.weights, hs]))⟩
    by_cases h0 : L = []
    · exact .inl h0
    · right
      have hpos : 0 < L.length := List.length_pos_iff.2 h0
      obtain ⟨b, o, sp⟩ := a
      have hcell : ∀ j v, (hashCells L)[j]? = some v → w.cell? ((⟨b, o, sp⟩ : Addr).add j) = some v := fun j v hj => by
        have hjl := (List.getElem?_eq_some_iff.1 hj).1
        rw [hashCells_length h32] at hjl
        obtain ⟨y, hy⟩ : ∃ y, L[j / 32]? = some y := ⟨_, List.getElem?_eq_getElem (by omega)⟩
        obtain ⟨hy1, hy2⟩ := hQ _ y hy
        obtain ⟨u, hu⟩ : ∃ u, (bytesV y)[j % 32]? = some u := ⟨_, List.getElem?_eq_getElem (by rw [bytesV_length]; omega)⟩
        have h3 := hashCells_at h32 hy hu
        have h4 := hy2 (j % 32) (by omega)
        rw [show j / 32 * 32 + j % 32 = j by omega] at h3 h4
        rw [h4, hu, ← h3, hj]
      have hc0 : ∃ v, (hashCells L)[0]? = some v := ⟨_, List.getElem?_eq_getElem (by rw [hashCells_length h32]; omega)⟩
      obtain ⟨v, hv⟩ := hc0
      have hspot : sp = none := by simpa [Addr.add] using World.cell?_spot (hcell 0 v hv)
      subst hspot
      exact ⟨b, o, rfl, fun j v hj => by rw [← Addr.add_mid]; exact hcell j v hj⟩
theorem given_open {t q e : TypeId} {f0 f1 f2 : Field} {n : Nat} {cs : List Value} {x : DataW H × List MemPlace} (ht : P.underlying t = some (.struct #[f0, f1, f2])) (o0 : f0.offset = 0) (o1 : f1.offset = 1) (o2 : f2.offset = 2)
    (hc : P.cellsOf t = 3) (c0 : P.cellsOf f0.type = 1) (c1 : P.cellsOf f1.type = 1) (c2 : P.cellsOf f2.type = 1) (s0 : P.underlying f0.type = some (.slice q)) (s1 : P.underlying f1.type = some (.slice q)) (s2 : P.underlying f2.type = some (.int .u64))
    (hq : P.underlying q = some (.array 32 e)) (he : P.underlying e = some (.int .u8)) (hce : P.cellsOf e = 1) (hcq : P.cellsOf q = 32)
    (h : DataW.trod enc P w base spare held n t cs = some x) : ∃ A1 n1 k1 l1 A2 n2 k2 l2 ix, cs = [.slice A1 n1 k1, .slice A2 n2 k2, .int .u64 ix] ∧ HRd w (.slice A1 n1 k1) l1 ∧ l1.length = n1 ∧ k1 ≤ maxLen ∧
      HRd w (.slice A2 n2 k2) l2 ∧ l2.length = n2 ∧ k2 ≤ maxLen ∧ 0 ≤ ix ∧ ix < 18446744073709551616 ∧ ∀ b, (∀ z ∈ x.1.weights P t, z ≤ b) → n1 * P.bytesOf q ≤ b ∧ n2 * P.bytesOf q ≤ b := by
  obtain ⟨y0, y1, y2, m, hx0, hl, h0, h1, h2⟩ := trod_struct3 ht h
  subst hx0
  rw [hc] at hl
  rw [o0, c0] at h0
  rw [o1, c1] at h1
  rw [o2, c2] at h2
  match cs, hl with
  | [x0, x1, x2], _ =>
    obtain ⟨A1, n1, k1, l1, e1, r1, m1, b1, z1⟩ := hashes_open s0 hq he hce hcq h0
    obtain ⟨A2, n2, k2, l2, e2, r2, m2, b2, z2⟩ := hashes_open s1 hq he hce hcq h1
    obtain ⟨ix, e3, _, hw⟩ := DataW.trod_int s2 h2
    simp at e1 e2 e3
    subst e1 e2 e3
    have := wf_u64 hw
    exact ⟨A1, n1, k1, l1, A2, n2, k2, l2, ix, rfl, r1, m1, b1, r2, m2, b2, this.1, this.2, fun b hb => ⟨z1 b (fun z hz => hb z (by simp only [DataW.weights, ht, DataW.weightsEach, List.map_cons, List.map_nil, List.mem_append]; exact .inl hz)), z2 b (fun z hz => hb z (by simp only [DataW.weights, ht, DataW.weightsEach, List.map_cons, List.map_nil, List.mem_append]; exact .inr (.inl hz)))⟩⟩
end
end Go.Proofs.YtaekabhcgdjhfaaDoor

/- A list of hashes as an argument, opened. No condition. -/
namespace Go.Proofs.YtaekabhcgdjhfaaDoor
open Go.ChangeShapes Go.WideShapes Go.ChangeAt Go.RowKit Go.Deep
set_option linter.unusedVariables false
section
variable {H : Type} {enc : TypeId × Value → H} {W : World} {base : Nat} {spare : Nat → Bool} {held : Bool}
theorem hrd_in {w : World} {A : Option Addr} {n cap : Nat} {l : List (List UInt8)} (h : HRd w (.slice A n cap) l) (hn : l.length = n) (hc : cap ≤ maxLen) : HIn w A n cap l := by
  obtain ⟨h1, A', cap', e, h2, h3⟩ := h
  cases e
  exact ⟨h1, rfl, h2, by unfold maxLen at hc; omega, h3⟩
theorem hashes_arg {n : Nat} {cs : Array Value} {x : DataW H × List MemPlace} (h : DataW.trod enc Tryd.prog W base spare held n 24 cs.toList = some x) (hw : ∀ z ∈ x.1.weights Tryd.prog 24, z ≤ reachBytes) :
    ∃ A k c l, cs = #[.slice A k c] ∧ HIn W A k c l ∧ k ≤ 9000000000000000000 := by
  obtain ⟨A, k, c, l, hcs, r, e, m, hz⟩ := hashes_open (e := 5) Tryd.underlying24 Tryd.underlying34 Tryd.underlying5 (by kernel_rfl) (by kernel_rfl) h
  have hz := hz _ hw
  have hb : Tryd.prog.bytesOf 34 = 32 := by kernel_rfl
  have hr := reachBytes_lt
  rw [hb] at hz
  refine ⟨A, k, c, l, ?_, hrd_in r e m, by omega⟩
  cases cs
  simp at hcs
  rw [hcs]
end
end Go.Proofs.YtaekabhcgdjhfaaDoor

/- cartularylaw20.right of what is so. Condition: the package-level variables read as listed. -/
namespace Go.Proofs.YtaekabhcgdjhfaaDoor
open Go.ChangeShapes Go.WideShapes Go.ChangeAt Go.RowKit
set_option linter.unusedVariables false
theorem run_buildSlice_str (w : World) (s : ByteArray) : (Instr.buildSlice 22 1 #[(0, .string s)]).run Tryd.prog w = .ok (.slice (some ⟨w.heap.size, 0, none⟩) 1 1) (w.alloc (.cells #[.string s] 9)) := by
  simp [Instr.buildSlice, run_underlying Tryd.underlying22, Tryd.sizeOf9, Tryd.zeroValue9, Instr.fill, newRow, Value.cells]
  have h1 : ∀ (x : Array Value), x.size = 1 → x.setIfInBounds 0 (.string s) = #[.string s] := fun x hx => by
    apply Array.ext
    · simp [hx]
    · intro i h1 h2
      have : i = 0 := by simp at h2; omega
      subst this
      simp
  rw [h1 _ (by simp)]
theorem wp_buildSlice_str {o : Oper} {a : Act} {w : World} {K : Act → World → Prop} {Q : Exit → Act → World → Prop} (x : Operand) (s : ByteArray) (ho : o.op = .buildSlice 22 1 #[(0, x)]) (hx : a.eval x = .string s)
    (h : K (a.put o.dst (.slice (some ⟨w.heap.size, 0, none⟩) 1 1)) (w.alloc (.cells #[.string s] 9))) : o.wp Tryd.prog a w K Q := by
  unfold Oper.wp execOp
  simp only [ho, List.map_toArray, List.map_cons, List.map_nil, hx, Sem.run_bind, Sem.run_pure, Result.andThen_ok, run_buildSlice_str w s]
  exact h
theorem sum1_any (a : Nat → Addr) (B : Nat) (s : ByteArray) (w : World) (hs : s.size ≤ 100000000000) (hE : Env B a (w.alloc (.cells #[.string s] 9))) :
    Calls Tryd.prog 35 #[.slice (some ⟨w.heap.size, 0, none⟩) 1 1] (w.alloc (.cells #[.string s] 9)) fun ev w' => ev = .returned (hv (shaB (bOf s))) ∧ Below (w.alloc (.cells #[.string s] 9)).heap.size (w.alloc (.cells #[.string s] 9)) w' := by
  have := sum_any (some ⟨w.heap.size, 0, none⟩) 1 [s] (w.alloc (.cells #[.string s] 9)) (trd_new w w.heap.size 1 [s] #[.string s] (0, 0) rfl rfl rfl) (by simp [catB, bOf_length]; omega) (by simp) hE.tab
  simpa [catB] using this
theorem bytes_self (s : ByteArray) : (s == s) = true := (Go.MapKept.bytes_beq s s).2 rfl
set_option maxRecDepth 100000 in
set_option maxHeartbeats 4000000 in
theorem right_any (a : Nat → Addr) (B : Nat) (s : ByteArray) (r : List UInt8) (w : World) (hE : Env B a w) (hs : s.size ≤ 100000000000) (lr : r.length = 32) (hr : shaB (bOf s) = r) :
    Calls Tryd.prog 17 #[.string s, .string s, .bool false, .bool true, hv r] w fun ev w' => ev = .returned (.bool true) ∧ Below w.heap.size w w' := by
  obtain ⟨vr, evr, Hvr, Zvr, Ivr, Ovr⟩ := row_of r lr
  have HB0 : Hid (Below w.heap.size w (w.alloc (.cells vr 34))) := Lib.hid ((Below.refl _ _).alloc (Nat.le_refl _) _)
  have RR : Hid ((w.alloc (.cells vr 34)).heap[w.heap.size]? = some (.cells vr 34 (0, 0))) := Lib.hid (heap_at _ _ _ rfl)
  have HS0 : Hid (w.heap.size < (w.alloc (.cells vr 34)).heap.size) := Lib.hid (by simp)
  obtain ⟨wb, hwb⟩ : ∃ x, w.alloc (.cells vr 34) = x := ⟨_, rfl⟩
  rw [hwb] at HB0 RR HS0
  have HWB := Lib.hid hwb
  have HEB := Lib.hid (hE.step HB0.out)
  have HSM : Hid (∀ w : World, Env B a (w.alloc (.cells #[.string s] 9)) → Calls Tryd.prog 35 #[.slice (some ⟨w.heap.size, 0, none⟩) 1 1] (w.alloc (.cells #[.string s] 9)) fun ev w' => ev = .returned (.agg vr) ∧ Below (w.alloc (.cells #[.string s] 9)).heap.size (w.alloc (.cells #[.string s] 9)) w') := Lib.hid (fun w e => by
    have := sum1_any a B s w hs e
    rw [hr, evr] at this; exact this)
  have hq : ∀ w, (Op.equalIn 10000 34 (.agg vr) (.agg vr)).run Tryd.prog w = .ok true w := fun w => by rw [eq_hash r r lr lr vr vr evr evr w]; simp
  have hss := bytes_self s
  rw [evr]
  clear hE evr hwb hr lr hs
  go_enter Tryd.func17, Tryd.ntmps17
  go_upto_region 1 with fail
  rw [HWB.out]
  go_wp2_with fail
  refine wp_region_held_drew (S := Gr wb) (by kernel_rfl) (Gr.refl wb).drew (fun hHeld => ?_)
  refine wpAnyH_take (i := 0) (v := ?tv1) rfl (by kernel_rfl) (by kernel_rfl) (by kernel_rfl) (fun _ _ _ h => h) (Or.inl ⟨by rfl, ?ty1⟩) (by assumption) ?tr1
  case ty1 => (intro w hSw; (try dsimp only at hSw); go_simp; (try with_reducible rfl))
  try simp only [Act.put, List.getElem_toArray, List.getElem_cons_zero, List.setIfInBounds_toArray, List.set_cons_zero, List.set_cons_succ]
  refine wpAnyH_take (i := 1) (v := ?tv2) rfl (by kernel_rfl) (by kernel_rfl) (by kernel_rfl) (fun _ _ _ h => h) (Or.inl ⟨by rfl, ?ty2⟩) (by assumption) ?tr2
  case ty2 => (intro w hSw; (try dsimp only at hSw); go_simp; (try with_reducible rfl))
  try simp only [Act.put, List.getElem_toArray, List.getElem_cons_zero, List.getElem_cons_succ, List.setIfInBounds_toArray, List.set_cons_zero, List.set_cons_succ]
  refine wpAnyH_take (i := 2) (v := ?tv3) rfl (by kernel_rfl) (by kernel_rfl) (by kernel_rfl) (fun _ _ _ h => h) (Or.inl ⟨by rfl, ?ty3⟩) (by assumption) ?tr3
  case ty3 => (intro w hSw; (try dsimp only at hSw); go_simp; (try with_reducible rfl))
  try simp only [Act.put, List.getElem_toArray, List.getElem_cons_zero, List.getElem_cons_succ, List.setIfInBounds_toArray, List.set_cons_zero, List.set_cons_succ]
  refine wpAnyH_take (i := 3) (v := ?tv4) rfl (by kernel_rfl) (by kernel_rfl) (by kernel_rfl) (fun _ _ _ h => h) (Or.inl ⟨by rfl, ?ty4⟩) (by assumption) ?tr4
  case ty4 => (intro w hSw; (try dsimp only at hSw); go_simp; (try with_reducible rfl))
  try simp only [Act.put, List.getElem_toArray, List.getElem_cons_zero, List.getElem_cons_succ, List.setIfInBounds_toArray, List.set_cons_zero, List.set_cons_succ]
  refine wpAnyH_take (i := 4) (v := ?tv5) rfl (by kernel_rfl) (by kernel_rfl) (by kernel_rfl) (fun _ _ _ h => h) (Or.inl ⟨by rfl, ?ty5⟩) (by assumption) ?tr5
  case ty5 => (intro w hSw; (try dsimp only at hSw); go_simp; (try with_reducible rfl))
  try simp only [Act.put, List.getElem_toArray, List.getElem_cons_zero, List.getElem_cons_succ, List.setIfInBounds_toArray, List.set_cons_zero, List.set_cons_succ]
  refine wpAnyH_take (i := 5) (v := ?tv6) rfl (by kernel_rfl) (by kernel_rfl) (by kernel_rfl) (fun _ _ _ h => h) (Or.inl ⟨by rfl, ?ty6⟩) (by assumption) ?tr6
  case ty6 => (intro w hSw; (try dsimp only at hSw); go_simp; (try with_reducible rfl))
  try simp only [Act.put, List.getElem_toArray, List.getElem_cons_zero, List.getElem_cons_succ, List.setIfInBounds_toArray, List.set_cons_zero, List.set_cons_succ]
  refine wpAnyH_take (i := 6) (v := ?tv7) rfl (by kernel_rfl) (by kernel_rfl) (by kernel_rfl) (fun _ _ _ h => h) (Or.inl ⟨by rfl, ?ty7⟩) (by assumption) ?tr7
  case ty7 => (intro w hSw; (try dsimp only at hSw); go_simp; (try with_reducible rfl))
  try simp only [Act.put, List.getElem_toArray, List.getElem_cons_zero, List.getElem_cons_succ, List.setIfInBounds_toArray, List.set_cons_zero, List.set_cons_succ]
  refine wpAnyH_take (i := 7) (v := ?tv8) rfl (by kernel_rfl) (by kernel_rfl) (by kernel_rfl) (fun _ _ _ h => h) (Or.inl ⟨by rfl, ?ty8⟩) (by assumption) ?tr8
  case ty8 => (intro w hSw; (try dsimp only at hSw); go_simp; (try with_reducible rfl))
  try simp only [Act.put, List.getElem_toArray, List.getElem_cons_zero, List.getElem_cons_succ, List.setIfInBounds_toArray, List.set_cons_zero, List.set_cons_succ]
  refine wpAnyH_take (i := 8) (v := ?tv9) rfl (by kernel_rfl) (by kernel_rfl) (by kernel_rfl) (fun _ _ _ h => h) (Or.inl ⟨by rfl, ?ty9⟩) (by assumption) ?tr9
  case ty9 => (intro w hSw; (try dsimp only at hSw); go_simp; (try with_reducible rfl))
  try simp only [Act.put, List.getElem_toArray, List.getElem_cons_zero, List.getElem_cons_succ, List.setIfInBounds_toArray, List.set_cons_zero, List.set_cons_succ]
  refine wpAnyH_take (i := 11) (v := _) rfl (by kernel_rfl) (by kernel_rfl) (by kernel_rfl) (fun _ _ _ h => h) (yieldsIf_load_row (by rfl) 34 _ (by rfl) w.heap.size (by rfl) 34 vr (0, 0) _ (fun w h => (Below.block h _ HS0.out).trans RR.out) Tryd.underlying34 rfl Ivr.out) (by assumption) ?_
  try simp only [Act.put, List.getElem_toArray, List.getElem_cons_zero, List.getElem_cons_succ, List.setIfInBounds_toArray, List.set_cons_zero, List.set_cons_succ]
  refine wpAnyH_ready (rs := [9]) (by kernel_rfl) (by simp) ?_
  refine AllReadyH.cons (i := 9) rfl (fun K2 hK2 => ?_) AllReadyH.nil
  rw [if_pos (by rfl)]
  refine wp_buildSlice_str _ s rfl rfl ?_
  refine hK2.out _ _ (show Gr wb _ from (Gr.alloc (Gr.drew (Gr.refl _)) _)) (fun hHeld2 => ?_)
  clear hK2 K2
  try simp only [Act.put, List.getElem_toArray, List.getElem_cons_zero, List.getElem_cons_succ, List.setIfInBounds_toArray, List.set_cons_zero, List.set_cons_succ]
  refine wpAnyH_ready (rs := [10]) (by kernel_rfl) (by simp) ?_
  refine AllReadyH.cons (i := 10) rfl (fun K2 hK2 => ?_) AllReadyH.nil
  go_simp
  go_at_call 35
  refine (HSM.out _ (HEB.out.step (show Gr wb (wb.drew.alloc (.cells #[.string s] 9)) from (by repeat (first | exact Gr.refl _ | (refine Gr.step ?_ (by assumption)) | (refine Gr.alloc ?_ _) | (refine Gr.drew ?_)))))).mono ?_
  rintro ev w101 ⟨rfl, b101⟩
  try go_wp2_with fail
  refine hK2.out _ _ (show Gr wb _ from (by repeat (first | exact Gr.refl _ | (refine Gr.step ?_ (by assumption)) | (refine Gr.alloc ?_ _) | (refine Gr.drew ?_)))) (fun hHeld2 => ?_)
  clear hK2 K2
  try simp only [Act.put, List.getElem_toArray, List.getElem_cons_zero, List.getElem_cons_succ, List.setIfInBounds_toArray, List.set_cons_zero, List.set_cons_succ]
  refine wpAnyH_take (i := 12) (v := ?tv11) rfl (by kernel_rfl) (by kernel_rfl) (by kernel_rfl) (fun _ _ _ h => h) (Or.inl ⟨by rfl, ?ty11⟩) (by assumption) ?tr11
  case ty11 => (intro w hSw; (try dsimp only at hSw); go_simp; (try with_reducible rfl))
  try simp only [Act.put, List.getElem_toArray, List.getElem_cons_zero, List.getElem_cons_succ, List.setIfInBounds_toArray, List.set_cons_zero, List.set_cons_succ]
  refine wpAnyH_take (i := 13) (v := ?tv12) rfl (by kernel_rfl) (by kernel_rfl) (by kernel_rfl) (fun _ _ _ h => h) (Or.inl ⟨by rfl, ?ty12⟩) (by assumption) ?tr12
  case ty12 => (intro w hSw; (try dsimp only at hSw); go_simp; (try with_reducible rfl))
  try simp only [Act.put, List.getElem_toArray, List.getElem_cons_zero, List.getElem_cons_succ, List.setIfInBounds_toArray, List.set_cons_zero, List.set_cons_succ]
  refine wpAnyH_take (i := 14) (v := ?tv13) rfl (by kernel_rfl) (by kernel_rfl) (by kernel_rfl) (fun _ _ _ h => h) (Or.inl ⟨by rfl, ?ty13⟩) (by assumption) ?tr13
  case ty13 => (intro w hSw; (try dsimp only at hSw); go_simp; (try with_reducible rfl))
  try simp only [Act.put, List.getElem_toArray, List.getElem_cons_zero, List.getElem_cons_succ, List.setIfInBounds_toArray, List.set_cons_zero, List.set_cons_succ]
  refine wpAnyH_done (by kernel_rfl) ?_ _
  go_wp2
  go_ret
  exact ⟨rfl, HB0.out.trans (Below.mono (show Gr wb w101 from (by repeat (first | exact Gr.refl _ | (refine Gr.step ?_ (by assumption)) | (refine Gr.alloc ?_ _) | (refine Gr.drew ?_)))) HB0.out.size)⟩
end Go.Proofs.YtaekabhcgdjhfaaDoor

/- What a log that is not there answers. Condition: the package-level variables read as listed. -/
namespace Go.Proofs.YtaekabhcgdjhfaaDoor
open Go.ChangeShapes Go.WideShapes Go.ChangeAt Go.RowKit
set_option linter.unusedVariables false
set_option maxRecDepth 100000 in
set_option maxHeartbeats 4000000 in
theorem tree_nil (a : Nat → Addr) (B b0 : Nat) (b e : Int) (w : World) (hE : Env B a w) (h1 : w.cell? ⟨b0, 1, none⟩ = some (.bool false)) :
    Calls Tryd.prog 33 #[.pointer (some ⟨b0, 0, none⟩), .agg #[.int .u64 b, .int .u64 e]] w fun ev w' => ev = .returned (.tuple #[hv zeroH, errV a 1]) ∧ Below w.heap.size w w' := by
  have hE' := Lib.hid hE
  have hb0 := block_of_cell h1
  obtain ⟨zv, ez, RZ, HZS, HZI, HZO⟩ := row_of zeroH zeroH_length
  have HZV : Hid (zv = #[.int .u8 0, .int .u8 0, .int .u8 0, .int .u8 0, .int .u8 0, .int .u8 0, .int .u8 0, .int .u8 0, .int .u8 0, .int .u8 0, .int .u8 0, .int .u8 0, .int .u8 0, .int .u8 0, .int .u8 0, .int .u8 0, .int .u8 0, .int .u8 0, .int .u8 0, .int .u8 0, .int .u8 0, .int .u8 0, .int .u8 0, .int .u8 0, .int .u8 0, .int .u8 0, .int .u8 0, .int .u8 0, .int .u8 0, .int .u8 0, .int .u8 0, .int .u8 0]) := Lib.hid (by rw [zeroH_v] at ez; cases ez; rfl)
  rw [ez]
  clear ez
  obtain ⟨wv, hwv⟩ : ∃ wv, ((w.alloc (.cells #[.pointer (some ⟨b0, 0, none⟩)] 27)).alloc (.cells #[.int .u64 b, .int .u64 e] 82)).alloc (.cells (List.replicate 32 (Value.int .u8 0)).toArray 34) = wv := ⟨_, rfl⟩
  have HBv : Hid (Gr w wv) := Lib.hid (by rw [← hwv]; exact (((Below.refl _ _).alloc (Nat.le_refl _) _).alloc (by simp) _).alloc (by simp; omega) _)
  have HRv : Hid (wv.heap[w.heap.size + 1 + 1]? = some (.cells (List.replicate 32 (Value.int .u8 0)).toArray 34 (0, 0))) := Lib.hid (by rw [← hwv]; exact heap_at _ _ _ (by simp))
  have r0 : wv.heap[w.heap.size]? = some (.cells #[.pointer (some ⟨b0, 0, none⟩)] 27 (0, 0)) := by
    rw [← hwv, (((Below.refl _ _).alloc (Nat.le_refl _) _).alloc (by simp) _).block w.heap.size (by simp)]; exact heap_at _ _ _ rfl
  have p0 : wv.cell? ⟨w.heap.size, 0, none⟩ = some (.pointer (some ⟨b0, 0, none⟩)) := by rw [cell_of_row wv w.heap.size 0 _ 27 (0, 0) r0]; rfl
  have q1 := cell_below HBv.out h1 hb0
  have bq : Gr w wv := HBv.out
  have HWV := Lib.hid hwv
  simp only [List.replicate, List.toArray] at HWV
  clear hE h1 hb0 hwv r0
  go_enter Tryd.func33, Tryd.ntmps33
  go_upto_region 1 with fail
  rw [HWV.out]
  go_wp2_with fail
  refine wp_region_held_drew (S := Gr w) (by kernel_rfl) (Gr.drew bq) (fun hHeld => ?_)
  refine wpAnyH_take (i := 0) (v := _) rfl (by kernel_rfl) (by kernel_rfl) (by kernel_rfl) (fun _ _ _ h => h) (show YieldsIf _ _ _ _ (.agg zv) _ from .inl ⟨by rfl, fun w h => by rw [HZV.out]; kernel_rfl⟩) (by assumption) ?_
  try simp only [Act.put, List.getElem_toArray, List.getElem_cons_zero, List.setIfInBounds_toArray, List.set_cons_zero, List.set_cons_succ]
  refine wpAnyH_take (i := 1) (v := ?tv2) rfl (by kernel_rfl) (by kernel_rfl) (by kernel_rfl) (fun _ _ _ h => h) (Or.inl ⟨by rfl, ?ty2⟩) (by assumption) ?tr2
  case ty2 => (intro w hSw; (try dsimp only at hSw); have q9 := cell_below hSw (hE'.out.laid.e1) (block_of_cell hE'.out.laid.e1); go_simp; (try with_reducible rfl))
  try simp only [Act.put, List.getElem_toArray, List.getElem_cons_zero, List.getElem_cons_succ, List.setIfInBounds_toArray, List.set_cons_zero, List.set_cons_succ]
  refine wpAnyH_ready (rs := [2]) (by kernel_rfl) (by simp) ?_
  refine AllReadyH.cons (i := 2) rfl (fun K2 hK2 => ?_) AllReadyH.nil
  rw [if_pos (by rfl)]
  refine wp_store_row 34 _ _ rfl (w.heap.size + 1 + 1) zv rfl rfl 34 _ (HRv.out) HZI.out (by rw [HZS.out]; simp) HZO.out ?_
  refine hK2.out _ _ (show Gr w _ from below_setRow (show Gr w wv.drew from (by repeat (first | exact Gr.refl _ | (refine Gr.step ?_ (by assumption)) | (refine Gr.alloc ?_ _) | (refine Gr.drew ?_)))) _ _ (by omega)) (fun hHeld2 => ?_)
  clear hK2 K2
  try simp only [Act.put, List.getElem_toArray, List.getElem_cons_zero, List.getElem_cons_succ]
  refine wpAnyH_take (i := 3) (v := ?tv3) rfl (by kernel_rfl) (by kernel_rfl) (by kernel_rfl) (fun _ _ _ h => h) (Or.inl ⟨by rfl, ?ty3⟩) (by assumption) ?tr3
  case ty3 => (intro w hSw; (try dsimp only at hSw); go_simp; (try with_reducible rfl))
  try simp only [Act.put, List.getElem_toArray, List.getElem_cons_zero, List.getElem_cons_succ, List.setIfInBounds_toArray, List.set_cons_zero, List.set_cons_succ]
  refine wpAnyH_done (by kernel_rfl) ?_ _
  go_wp2
  refine bodyPost_ret (v := .tuple #[.agg zv, errV a 1]) (results_row_tmp rfl _ _ (w.heap.size + 1 + 1) 34 zv (0, 0) _ rfl (setRow_heap wv.drew _ _ _ _ _ HRv.out) Tryd.underlying34 rfl HZI.out _ rfl) rfl ⟨rfl, hHeld2⟩
set_option maxRecDepth 100000 in
set_option maxHeartbeats 2000000 in
theorem lroot_nil (a : Nat → Addr) (B b0 : Nat) (sz : Int) (w : World) (hE : Env B a w) (h1 : w.cell? ⟨b0, 1, none⟩ = some (.bool false)) :
    Calls Tryd.prog 11 #[.pointer (some ⟨b0, 0, none⟩), .int .u64 sz] w fun ev w' => ev = .returned (.tuple #[hv zeroH, errV a 1]) ∧ Below w.heap.size w w' := by
  have hBa : Hid (Below w.heap.size w (w.alloc (.cells (List.replicate 32 (Value.int .u8 0)).toArray 34))) := Lib.hid ((Below.refl _ _).alloc (Nat.le_refl _) _)
  have HG := Lib.hid (heap_at w (.cells (List.replicate 32 (Value.int .u8 0)).toArray 34) w.heap.size rfl)
  have hsw : w.heap.size < (w.alloc (.cells (List.replicate 32 (Value.int .u8 0)).toArray 34)).heap.size := by simp
  obtain ⟨wa, hwa⟩ : ∃ wa, w.alloc (.cells (List.replicate 32 (Value.int .u8 0)).toArray 34) = wa := ⟨_, rfl⟩
  rw [hwa] at hBa HG hsw
  have hst := tree_nil a B b0 0 sz wa (hE.step hBa.out) (cell_below hBa.out h1 (block_of_cell h1))
  have HWA := Lib.hid hwa
  simp only [List.replicate, List.toArray] at HWA
  obtain ⟨vx, evx, EX, ZX, IX, OX⟩ := row_of zeroH zeroH_length
  rw [evx] at hst ⊢
  have HST := Lib.hid hst
  clear hE h1 hwa hst evx
  go_enter Tryd.func11, Tryd.ntmps11
  go_upto_region 1 with fail
  rw [HWA.out]
  go_wp2_with fail
  refine HST.out.mono ?_
  rintro ev w1 ⟨rfl, hb⟩
  have HG1 := Lib.hid ((hb.block _ hsw).trans HG.out)
  have HB := Lib.hid hb
  clear hb
  unfold errV
  go_wp2_with (refine wpList_store_row rfl 34 _ _ rfl w.heap.size vx rfl rfl 34 _ HG1.out IX.out (by rw [ZX.out]; simp) OX.out ?_)
  refine bodyPost_ret (v := .tuple #[.agg vx, errV a 1]) (results_row_tmp rfl _ _ w.heap.size 34 vx (0, 0) _ rfl (setRow_heap _ _ _ _ _ _ HG1.out) Tryd.underlying34 rfl IX.out _ rfl) rfl ⟨rfl, ?_⟩
  exact below_setRow (hBa.out.trans (HB.out.mono (by omega))) _ _ (by omega)
set_option maxRecDepth 100000 in
set_option maxHeartbeats 4000000 in
theorem tree_none (a : Nat → Addr) (B : Nat) (b e : Int) (w : World) (hE : Env B a w) :
    Calls Tryd.prog 33 #[.pointer none, .agg #[.int .u64 b, .int .u64 e]] w fun ev w' => ev = .returned (.tuple #[hv zeroH, errV a 1]) ∧ Below w.heap.size w w' := by
  have hE' := Lib.hid hE
  obtain ⟨zv, ez, RZ, HZS, HZI, HZO⟩ := row_of zeroH zeroH_length
  have HZV : Hid (zv = #[.int .u8 0, .int .u8 0, .int .u8 0, .int .u8 0, .int .u8 0, .int .u8 0, .int .u8 0, .int .u8 0, .int .u8 0, .int .u8 0, .int .u8 0, .int .u8 0, .int .u8 0, .int .u8 0, .int .u8 0, .int .u8 0, .int .u8 0, .int .u8 0, .int .u8 0, .int .u8 0, .int .u8 0, .int .u8 0, .int .u8 0, .int .u8 0, .int .u8 0, .int .u8 0, .int .u8 0, .int .u8 0, .int .u8 0, .int .u8 0, .int .u8 0, .int .u8 0]) := Lib.hid (by rw [zeroH_v] at ez; cases ez; rfl)
  rw [ez]
  clear ez
  obtain ⟨wv, hwv⟩ : ∃ wv, ((w.alloc (.cells #[.pointer none] 27)).alloc (.cells #[.int .u64 b, .int .u64 e] 82)).alloc (.cells (List.replicate 32 (Value.int .u8 0)).toArray 34) = wv := ⟨_, rfl⟩
  have HBv : Hid (Gr w wv) := Lib.hid (by rw [← hwv]; exact (((Below.refl _ _).alloc (Nat.le_refl _) _).alloc (by simp) _).alloc (by simp; omega) _)
  have HRv : Hid (wv.heap[w.heap.size + 1 + 1]? = some (.cells (List.replicate 32 (Value.int .u8 0)).toArray 34 (0, 0))) := Lib.hid (by rw [← hwv]; exact heap_at _ _ _ (by simp))
  have r0 : wv.heap[w.heap.size]? = some (.cells #[.pointer none] 27 (0, 0)) := by
    rw [← hwv, (((Below.refl _ _).alloc (Nat.le_refl _) _).alloc (by simp) _).block w.heap.size (by simp)]; exact heap_at _ _ _ rfl
  have p0 : wv.cell? ⟨w.heap.size, 0, none⟩ = some (.pointer none) := by rw [cell_of_row wv w.heap.size 0 _ 27 (0, 0) r0]; rfl
  have bq : Gr w wv := HBv.out
  have HWV := Lib.hid hwv
  simp only [List.replicate, List.toArray] at HWV
  clear hE hwv r0
  go_enter Tryd.func33, Tryd.ntmps33
  go_upto_region 1 with fail
  rw [HWV.out]
  go_wp2_with fail
  refine wp_region_held_drew (S := Gr w) (by kernel_rfl) (Gr.drew bq) (fun hHeld => ?_)
  refine wpAnyH_take (i := 0) (v := _) rfl (by kernel_rfl) (by kernel_rfl) (by kernel_rfl) (fun _ _ _ h => h) (show YieldsIf _ _ _ _ (.agg zv) _ from .inl ⟨by rfl, fun w h => by rw [HZV.out]; kernel_rfl⟩) (by assumption) ?_
  try simp only [Act.put, List.getElem_toArray, List.getElem_cons_zero, List.setIfInBounds_toArray, List.set_cons_zero, List.set_cons_succ]
  refine wpAnyH_take (i := 1) (v := ?tv2) rfl (by kernel_rfl) (by kernel_rfl) (by kernel_rfl) (fun _ _ _ h => h) (Or.inl ⟨by rfl, ?ty2⟩) (by assumption) ?tr2
  case ty2 => (intro w hSw; (try dsimp only at hSw); have q9 := cell_below hSw (hE'.out.laid.e1) (block_of_cell hE'.out.laid.e1); go_simp; (try with_reducible rfl))
  try simp only [Act.put, List.getElem_toArray, List.getElem_cons_zero, List.getElem_cons_succ, List.setIfInBounds_toArray, List.set_cons_zero, List.set_cons_succ]
  refine wpAnyH_ready (rs := [2]) (by kernel_rfl) (by simp) ?_
  refine AllReadyH.cons (i := 2) rfl (fun K2 hK2 => ?_) AllReadyH.nil
  rw [if_pos (by rfl)]
  refine wp_store_row 34 _ _ rfl (w.heap.size + 1 + 1) zv rfl rfl 34 _ (HRv.out) HZI.out (by rw [HZS.out]; simp) HZO.out ?_
  refine hK2.out _ _ (show Gr w _ from below_setRow (show Gr w wv.drew from (by repeat (first | exact Gr.refl _ | (refine Gr.step ?_ (by assumption)) | (refine Gr.alloc ?_ _) | (refine Gr.drew ?_)))) _ _ (by omega)) (fun hHeld2 => ?_)
  clear hK2 K2
  try simp only [Act.put, List.getElem_toArray, List.getElem_cons_zero, List.getElem_cons_succ]
  refine wpAnyH_take (i := 3) (v := ?tv3) rfl (by kernel_rfl) (by kernel_rfl) (by kernel_rfl) (fun _ _ _ h => h) (Or.inl ⟨by rfl, ?ty3⟩) (by assumption) ?tr3
  case ty3 => (intro w hSw; (try dsimp only at hSw); go_simp; (try with_reducible rfl))
  try simp only [Act.put, List.getElem_toArray, List.getElem_cons_zero, List.getElem_cons_succ, List.setIfInBounds_toArray, List.set_cons_zero, List.set_cons_succ]
  refine wpAnyH_done (by kernel_rfl) ?_ _
  go_wp2
  refine bodyPost_ret (v := .tuple #[.agg zv, errV a 1]) (results_row_tmp rfl _ _ (w.heap.size + 1 + 1) 34 zv (0, 0) _ rfl (setRow_heap wv.drew _ _ _ _ _ HRv.out) Tryd.underlying34 rfl HZI.out _ rfl) rfl ⟨rfl, hHeld2⟩
set_option maxRecDepth 100000 in
set_option maxHeartbeats 2000000 in
theorem lroot_none (a : Nat → Addr) (B : Nat) (sz : Int) (w : World) (hE : Env B a w) :
    Calls Tryd.prog 11 #[.pointer none, .int .u64 sz] w fun ev w' => ev = .returned (.tuple #[hv zeroH, errV a 1]) ∧ Below w.heap.size w w' := by
  have hBa : Hid (Below w.heap.size w (w.alloc (.cells (List.replicate 32 (Value.int .u8 0)).toArray 34))) := Lib.hid ((Below.refl _ _).alloc (Nat.le_refl _) _)
  have HG := Lib.hid (heap_at w (.cells (List.replicate 32 (Value.int .u8 0)).toArray 34) w.heap.size rfl)
  have hsw : w.heap.size < (w.alloc (.cells (List.replicate 32 (Value.int .u8 0)).toArray 34)).heap.size := by simp
  obtain ⟨wa, hwa⟩ : ∃ wa, w.alloc (.cells (List.replicate 32 (Value.int .u8 0)).toArray 34) = wa := ⟨_, rfl⟩
  rw [hwa] at hBa HG hsw
  have hst := tree_none a B 0 sz wa (hE.step hBa.out)
  have HWA := Lib.hid hwa
  simp only [List.replicate, List.toArray] at HWA
  obtain ⟨vx, evx, EX, ZX, IX, OX⟩ := row_of zeroH zeroH_length
  rw [evx] at hst ⊢
  have HST := Lib.hid hst
  clear hE hwa hst evx
  go_enter Tryd.func11, Tryd.ntmps11
  go_upto_region 1 with fail
  rw [HWA.out]
  go_wp2_with fail
  refine HST.out.mono ?_
  rintro ev w1 ⟨rfl, hb⟩
  have HG1 := Lib.hid ((hb.block _ hsw).trans HG.out)
  have HB := Lib.hid hb
  clear hb
  unfold errV
  go_wp2_with (refine wpList_store_row rfl 34 _ _ rfl w.heap.size vx rfl rfl 34 _ HG1.out IX.out (by rw [ZX.out]; simp) OX.out ?_)
  refine bodyPost_ret (v := .tuple #[.agg vx, errV a 1]) (results_row_tmp rfl _ _ w.heap.size 34 vx (0, 0) _ rfl (setRow_heap _ _ _ _ _ _ HG1.out) Tryd.underlying34 rfl IX.out _ rfl) rfl ⟨rfl, ?_⟩
  exact below_setRow (hBa.out.trans (HB.out.mono (by omega))) _ _ (by omega)
set_option maxRecDepth 100000 in
set_option maxHeartbeats 2000000 in
theorem lroot_over (a : Nat → Addr) (B base b0 : Nat) (v : Value) (L : List ByteArray) (sz : Int) (w : World) (hE : Env B a w) (h1 : LogAt base b0 v L w) (h2 : (L.length : Int) < sz) (h3 : sz < 18446744073709551616) :
    Calls Tryd.prog 11 #[.pointer (some ⟨b0, 0, none⟩), .int .u64 sz] w fun ev w' => ev = .returned (.tuple #[hv zeroH, errV a 5]) ∧ Below w.heap.size w w' := by
  have hBa : Hid (Below w.heap.size w (w.alloc (.cells (List.replicate 32 (Value.int .u8 0)).toArray 34))) := Lib.hid ((Below.refl _ _).alloc (Nat.le_refl _) _)
  have HG := Lib.hid (heap_at w (.cells (List.replicate 32 (Value.int .u8 0)).toArray 34) w.heap.size rfl)
  have hsw : w.heap.size < (w.alloc (.cells (List.replicate 32 (Value.int .u8 0)).toArray 34)).heap.size := by simp
  obtain ⟨wa, hwa⟩ : ∃ wa, w.alloc (.cells (List.replicate 32 (Value.int .u8 0)).toArray 34) = wa := ⟨_, rfl⟩
  rw [hwa] at hBa HG hsw
  have hst := tree_bad a B base b0 v L 0 sz wa (hE.step hBa.out) (h1.below hBa.out) (by omega) (by omega) (by omega) h3 (.inr h2)
  have HWA := Lib.hid hwa
  simp only [List.replicate, List.toArray] at HWA
  obtain ⟨vx, evx, EX, ZX, IX, OX⟩ := row_of zeroH zeroH_length
  rw [evx] at hst ⊢
  have HST := Lib.hid hst
  clear hE h1 h2 h3 hwa hst evx
  go_enter Tryd.func11, Tryd.ntmps11
  go_upto_region 1 with fail
  rw [HWA.out]
  go_wp2_with fail
  refine HST.out.mono ?_
  rintro ev w1 ⟨rfl, hb⟩
  have HG1 := Lib.hid ((hb.block _ hsw).trans HG.out)
  have HB := Lib.hid hb
  clear hb
  unfold errV
  go_wp2_with (refine wpList_store_row rfl 34 _ _ rfl w.heap.size vx rfl rfl 34 _ HG1.out IX.out (by rw [ZX.out]; simp) OX.out ?_)
  refine bodyPost_ret (v := .tuple #[.agg vx, errV a 5]) (results_row_tmp rfl _ _ w.heap.size 34 vx (0, 0) _ rfl (setRow_heap _ _ _ _ _ _ HG1.out) Tryd.underlying34 rfl IX.out _ rfl) rfl ⟨rfl, ?_⟩
  exact below_setRow (hBa.out.trans (HB.out.mono (by omega))) _ _ (by omega)
end Go.Proofs.YtaekabhcgdjhfaaDoor

/- verify.Root, Inclusion where the path is too short. Condition: the package-level variables read as listed. -/
namespace Go.Proofs.YtaekabhcgdjhfaaDoor
open Go.ChangeShapes Go.WideShapes Go.ChangeAt Go.RowKit
set_option linter.unusedVariables false
set_option maxRecDepth 100000 in
set_option maxHeartbeats 8000000 in
theorem vroot_short (a : Nat → Addr) (B : Nat) (h : List UInt8) (w : World) (hE : Env B a w) (hh : h.length = 32) :
    Calls Tryd.prog 34 #[.int .u64 0, .int .u64 3, hv h, .slice none 0 0] w fun e w' => e = .returned (.tuple #[hv zeroH, errV a 10]) ∧ Below w.heap.size w w' := by
  have HE := Lib.hid hE
  obtain ⟨vh, evh, Hvh, Zvh, Ivh, Ovh⟩ := row_of h hh
  rw [evh]
  have HH := Lib.hid (And.intro hh evh)
  obtain ⟨vz, ez, Hvz, Zvz, Ivz, Ovz⟩ := row_of zeroH zeroH_length
  have HZV : Hid (vz = #[.int .u8 0, .int .u8 0, .int .u8 0, .int .u8 0, .int .u8 0, .int .u8 0, .int .u8 0, .int .u8 0, .int .u8 0, .int .u8 0, .int .u8 0, .int .u8 0, .int .u8 0, .int .u8 0, .int .u8 0, .int .u8 0, .int .u8 0, .int .u8 0, .int .u8 0, .int .u8 0, .int .u8 0, .int .u8 0, .int .u8 0, .int .u8 0, .int .u8 0, .int .u8 0, .int .u8 0, .int .u8 0, .int .u8 0, .int .u8 0, .int .u8 0, .int .u8 0]) := Lib.hid (by rw [zeroH_v] at ez; cases ez; rfl)
  have EZ := Lib.hid ez
  have hWB : Below w.heap.size w ((w.alloc (.cells vh 34)).alloc (.cells (List.replicate 32 (Value.int .u8 0)).toArray 34)) := ((Below.refl _ _).alloc (Nat.le_refl _) _).alloc (by simp) _
  have hR6 : ((w.alloc (.cells vh 34)).alloc (.cells (List.replicate 32 (Value.int .u8 0)).toArray 34)).heap[w.heap.size]? = some (.cells vh 34 (0, 0)) := by
    rw [((Below.refl _ (w.alloc (.cells vh 34))).alloc (Nat.le_refl _) _).block w.heap.size (by simp)]; exact heap_at _ _ _ rfl
  have hR8 : ((w.alloc (.cells vh 34)).alloc (.cells (List.replicate 32 (Value.int .u8 0)).toArray 34)).heap[w.heap.size + 1]? = some (.cells (List.replicate 32 (Value.int .u8 0)).toArray 34 (0, 0)) := heap_at _ _ _ (by simp)
  have hsw : ((w.alloc (.cells vh 34)).alloc (.cells (List.replicate 32 (Value.int .u8 0)).toArray 34)).heap.size = w.heap.size + 2 := by simp
  obtain ⟨wv, hwv⟩ : ∃ wv, (w.alloc (.cells vh 34)).alloc (.cells (List.replicate 32 (Value.int .u8 0)).toArray 34) = wv := ⟨_, rfl⟩
  rw [hwv] at hWB hR6 hR8 hsw
  have HWV := Lib.hid hwv
  simp only [List.replicate, List.toArray] at HWV
  have HR6 := Lib.hid hR6
  have HR8 := Lib.hid hR8
  have HSW := Lib.hid hsw
  have HWB := Lib.hid hWB
  have hd1 : decide ((9223372036854775808 : Int) < 3) = false := by decide
  have hd2 : decide ((3 : Int) ≤ 0) = false := by decide
  rw [ez]
  clear hE evh ez hwv hR6 hR8 hsw hWB
  go_enter Tryd.func34, Tryd.ntmps34
  go_upto_region 1 with fail
  rw [HWV.out]
  go_upto_region 3 with fail
  have gv : Below w.heap.size w wv := HWB.out
  have hsv : w.heap.size + 2 ≤ wv.heap.size := by have := HSW.out; omega
  have KV : Hid (∀ w', Gr wv w' → w'.heap[w.heap.size]? = some (.cells vh 34 (0, 0))) := Lib.hid (fun w' h => (h.block _ (by omega)).trans HR6.out)
  refine wp_region_held_drew (S := Gr wv) (by kernel_rfl) ((Gr.refl _).drew) (fun hHeld => ?_)
  refine wpAnyH_take (i := 0) (v := ?tv1) rfl (by kernel_rfl) (by kernel_rfl) (by kernel_rfl) (fun _ _ _ h => h) (Or.inl ⟨by rfl, ?ty1⟩) (by assumption) ?tr1
  case ty1 => (intro w hSw; (try dsimp only at hSw); go_simp; (try with_reducible rfl))
  try simp only [Act.put, List.getElem_toArray, List.getElem_cons_zero, List.setIfInBounds_toArray, List.set_cons_zero, List.set_cons_succ]
  refine wpAnyH_take (i := 1) (v := ?tv2) rfl (by kernel_rfl) (by kernel_rfl) (by kernel_rfl) (fun _ _ _ h => h) (Or.inl ⟨by rfl, ?ty2⟩) (by assumption) ?tr2
  case ty2 => (intro w hSw; (try dsimp only at hSw); go_simp; (try with_reducible rfl))
  try simp only [Act.put, List.getElem_toArray, List.getElem_cons_zero, List.getElem_cons_succ, List.setIfInBounds_toArray, List.set_cons_zero, List.set_cons_succ]
  refine wpAnyH_take (i := 2) (v := _) rfl (by kernel_rfl) (by kernel_rfl) (by kernel_rfl) (fun _ _ _ h => h) (yieldsIf_load_row (by rfl) 34 _ (by rfl) _ (by rfl) 34 vh (0, 0) _ (fun w h => KV.out w h) Tryd.underlying34 rfl Ivh.out) (by assumption) ?_
  try simp only [Act.put, List.getElem_toArray, List.getElem_cons_zero, List.getElem_cons_succ, List.setIfInBounds_toArray, List.set_cons_zero, List.set_cons_succ]
  refine wpAnyH_ready (rs := [3]) (by kernel_rfl) (by simp) ?_
  refine AllReadyH.cons (i := 3) rfl (fun K2 hK2 => ?_) AllReadyH.nil
  go_simp
  obtain ⟨wa, hwa⟩ : ∃ x, (wv.alloc (.cells (List.replicate 32 (Value.int .u8 0)).toArray 34)).drew = x := ⟨_, rfl⟩
  have ba : Below wv.heap.size wv wa := by rw [← hwa]; exact ((Below.refl _ wv).alloc (Nat.le_refl _) _).drew
  have Ra : Hid (wa.heap[wv.heap.size]? = some (.cells (List.replicate 32 (Value.int .u8 0)).toArray 34 (0, 0))) := Lib.hid (by rw [← hwa]; exact heap_at wv _ _ rfl)
  have hsa : wv.heap.size + 1 ≤ wa.heap.size := by rw [← hwa]; simp
  simp only [List.replicate] at hwa
  rw [hwa]
  clear hwa
  refine hK2.out _ _ (show Gr wv _ from (by repeat (first | exact Gr.refl _ | (refine Gr.step ?_ (by assumption)) | (refine Gr.alloc ?_ _) | (refine Gr.drew ?_)))) (fun hHeld2 => ?_)
  clear hK2 K2
  try simp only [Act.put, List.getElem_toArray, List.getElem_cons_zero, List.getElem_cons_succ, List.setIfInBounds_toArray, List.set_cons_zero, List.set_cons_succ]
  refine wpAnyH_take (i := 4) (v := ?tv4) rfl (by kernel_rfl) (by kernel_rfl) (by kernel_rfl) (fun _ _ _ h => h) (Or.inl ⟨by rfl, ?ty4⟩) (by assumption) ?tr4
  case ty4 => (intro w hSw; (try dsimp only at hSw); go_simp; (try with_reducible rfl))
  try simp only [Act.put, List.getElem_toArray, List.getElem_cons_zero, List.getElem_cons_succ, List.setIfInBounds_toArray, List.set_cons_zero, List.set_cons_succ]
  refine wpAnyH_ready (rs := [5]) (by kernel_rfl) (by simp) ?_
  refine AllReadyH.cons (i := 5) rfl (fun K2 hK2 => ?_) AllReadyH.nil
  rw [if_pos (by rfl)]
  refine wp_store_row 34 _ _ rfl wv.heap.size vh rfl rfl 34 _ Ra.out Ivh.out (by rw [Zvh.out]; simp) Ovh.out ?_
  refine hK2.out _ _ (show Gr wv _ from below_setRow (show Gr wv wa from (by repeat (first | exact Gr.refl _ | (refine Gr.step ?_ (by assumption)) | (refine Gr.alloc ?_ _) | (refine Gr.drew ?_)))) _ _ (Nat.le_refl _)) (fun hHeld2 => ?_)
  clear hK2 K2
  try simp only [Act.put, List.getElem_toArray, List.getElem_cons_zero, List.getElem_cons_succ]
  refine wpAnyH_done (by kernel_rfl) ?_ _
  have HBL : Hid (Below w.heap.size w (wa.setRow wv.heap.size vh)) := Lib.hid (below_setRow (show Gr w wa from (by repeat (first | exact Gr.refl _ | (refine Gr.step ?_ (by assumption)) | (refine Gr.alloc ?_ _) | (refine Gr.drew ?_)))) _ _ (by omega))
  have HRL : Hid ((wa.setRow wv.heap.size vh).heap[wv.heap.size]? = some (.cells vh 34 (0, 0))) := Lib.hid (setRow_heap _ _ _ _ _ _ Ra.out)
  have HR8L : Hid ((wa.setRow wv.heap.size vh).heap[w.heap.size + 1]? = some (.cells (List.replicate 32 (Value.int .u8 0)).toArray 34 (0, 0))) := Lib.hid (by
    rw [setRow_other _ _ _ _ (by omega)]; exact (ba.block _ (by omega)).trans HR8.out)
  have hsL : wv.heap.size + 1 ≤ (wa.setRow wv.heap.size vh).heap.size := by simp; omega
  obtain ⟨wL, hwL⟩ : ∃ x, wa.setRow wv.heap.size vh = x := ⟨_, rfl⟩
  rw [hwL] at HBL HRL HR8L hsL ⊢
  clear hwL ba Ra hsa gv
  go_wp2_with fail
  go_loopw [0, 10, 28] (fun n l i wr => i = .int .i64 0 ∧ n = .int .u64 0 ∧ l = .int .u64 2 ∧ wL = wr) (fun _ _ _ _ => 0)
  case atStart => exact ⟨rfl, rfl, by go_num, rfl⟩
  case round =>
    obtain ⟨rfl, rfl, rfl, rfl⟩ := hrel
    go_wp2_with fail
    refine wp_region_held_drew (S := Gr w) (by kernel_rfl) (Gr.drew (show Gr w wL from HBL.out)) (fun hHeld => ?_)
    refine wpAnyH_take (i := 0) (v := _) rfl (by kernel_rfl) (by kernel_rfl) (by kernel_rfl) (fun _ _ _ h => h) (show YieldsIf _ _ _ _ (.agg vz) _ from .inl ⟨by rfl, fun w h => by rw [HZV.out]; kernel_rfl⟩) (by assumption) ?_
    try simp only [Act.put, List.getElem_toArray, List.getElem_cons_zero, List.setIfInBounds_toArray, List.set_cons_zero, List.set_cons_succ]
    refine wpAnyH_take (i := 1) (v := ?tv6) rfl (by kernel_rfl) (by kernel_rfl) (by kernel_rfl) (fun _ _ _ h => h) (Or.inl ⟨by rfl, ?ty6⟩) (by assumption) ?tr6
    case ty6 => (intro w hSw; (try dsimp only at hSw); have q9 := cell_below hSw (HE.out.laid.e10) (block_of_cell HE.out.laid.e10); go_simp; (try with_reducible rfl))
    try simp only [Act.put, List.getElem_toArray, List.getElem_cons_zero, List.getElem_cons_succ, List.setIfInBounds_toArray, List.set_cons_zero, List.set_cons_succ]
    refine wpAnyH_ready (rs := [2]) (by kernel_rfl) (by simp) ?_
    refine AllReadyH.cons (i := 2) rfl (fun K2 hK2 => ?_) AllReadyH.nil
    rw [if_pos (by rfl)]
    refine wp_store_row 34 _ _ rfl (w.heap.size + 1) vz rfl rfl 34 _ HR8L.out Ivz.out (by rw [Zvz.out]; simp) Ovz.out ?_
    refine hK2.out _ _ (show Gr w _ from below_setRow (show Below w.heap.size w wL.drew from HBL.out.drew) _ _ (by omega)) (fun hHeld2 => ?_)
    clear hK2 K2
    try simp only [Act.put, List.getElem_toArray, List.getElem_cons_zero, List.getElem_cons_succ]
    refine wpAnyH_take (i := 3) (v := ?tv7) rfl (by kernel_rfl) (by kernel_rfl) (by kernel_rfl) (fun _ _ _ h => h) (Or.inl ⟨by rfl, ?ty7⟩) (by assumption) ?tr7
    case ty7 => (intro w hSw; (try dsimp only at hSw); go_simp; (try with_reducible rfl))
    try simp only [Act.put, List.getElem_toArray, List.getElem_cons_zero, List.getElem_cons_succ, List.setIfInBounds_toArray, List.set_cons_zero, List.set_cons_succ]
    refine wpAnyH_done (by kernel_rfl) ?_ _
    go_wp2
    refine bodyPost_ret (v := .tuple #[.agg vz, errV a 10]) (results_row_tmp rfl _ _ (w.heap.size + 1) 34 vz (0, 0) _ rfl (setRow_heap wL.drew _ _ _ _ _ HR8L.out) Tryd.underlying34 rfl Ivz.out _ rfl) rfl ⟨rfl, hHeld2⟩
set_option maxRecDepth 100000 in
set_option maxHeartbeats 4000000 in
theorem vincl_short (a : Nat → Addr) (B : Nat) (h r : List UInt8) (w : World) (hE : Env B a w) (hh : h.length = 32) (hr : r.length = 32) :
    Calls Tryd.prog 12 #[.int .u64 0, .int .u64 3, hv h, .slice none 0 0, hv r] w fun e w' => e = .returned (errV a 10) ∧ Below w.heap.size w w' := by
  obtain ⟨vh, evh, Hvh, Zvh, Ivh, Ovh⟩ := row_of h hh
  obtain ⟨vr, evr, Hvr, Zvr, Ivr, Ovr⟩ := row_of r hr
  obtain ⟨vz, evz, Hvz, Zvz, Ivz, Ovz⟩ := row_of zeroH zeroH_length
  have hB0 : Below w.heap.size w ((w.alloc (.cells vh 34)).alloc (.cells vr 34)) := ((Below.refl _ _).alloc (Nat.le_refl _) _).alloc (by simp) _
  have hR7 : ((w.alloc (.cells vh 34)).alloc (.cells vr 34)).heap[w.heap.size]? = some (.cells vh 34 (0, 0)) := by
    rw [((Below.refl _ (w.alloc (.cells vh 34))).alloc (Nat.le_refl _) _).block w.heap.size (by simp)]; exact heap_at _ _ _ rfl
  obtain ⟨wv, hwv⟩ : ∃ wv, (w.alloc (.cells vh 34)).alloc (.cells vr 34) = wv := ⟨_, rfl⟩
  rw [hwv] at hB0 hR7
  have HROOT : Hid (Calls Tryd.prog 34 #[.int .u64 0, .int .u64 3, .agg vh, .slice none 0 0] wv fun e w' => e = .returned (.tuple #[.agg vz, errV a 10]) ∧ Below wv.heap.size wv w') := Lib.hid (by
    have := vroot_short a B h wv (hE.step hB0) hh
    rw [evh, evz] at this
    exact this)
  have HWV := Lib.hid hwv
  have HB := Lib.hid hB0
  have R7 := Lib.hid hR7
  rw [evh, evr]
  clear hE evh evr evz hwv hB0 hR7 hh hr
  unfold errV at HROOT ⊢
  go_enter Tryd.func12, Tryd.ntmps12
  go_upto_region 1 with fail
  rw [HWV.out]
  go_wp2_with (refine wpList_load_row rfl 34 _ rfl w.heap.size rfl 34 vh (0, 0) _ R7.out Tryd.underlying34 rfl Ivh.out ?_)
  refine HROOT.out.mono ?_
  rintro ev w1 ⟨rfl, b1⟩
  go_upto_region 2 with (refine wpList_store_row_any rfl 34 _ _ rfl w1.heap.size vz rfl rfl 34 _ (heap_at _ _ _ rfl) Ivz.out (by rw [Zvz.out]; rfl) Ovz.out ?_; intro w2 hbN hgN hsN; have b2 : Below w1.heap.size w1 w2 := ((Below.refl _ w1).alloc (Nat.le_refl _) _).trans (hbN.to_below (by simp) (fun k hk q => by omega)); clear hbN hgN hsN)
  have HF : Hid (Below w.heap.size w w2) := Lib.hid (HB.out.trans ((b1.trans (b2.mono b1.size)).mono HB.out.size))
  clear b1 b2
  go_wp2_with fail
  go_ret
  exact ⟨rfl, HF.out⟩
end Go.Proofs.YtaekabhcgdjhfaaDoor

/- cartularylaw20.lives answers true. Condition: the package-level variables read as listed. -/
namespace Go.Proofs.YtaekabhcgdjhfaaDoor
open Go.ChangeShapes Go.WideShapes Go.ChangeAt Go.RowKit
set_option linter.unusedVariables false
def l3 : List ByteArray := [⟨#[97]⟩, ⟨#[98]⟩, ⟨#[99]⟩]
theorem l3_kept : keptL l3 = l3 := by unfold keptL; rfl
theorem l3_path : (treesB l3 (pathL 64 0 0 3)).length = 2 := by rw [treesB_len]; decide +kernel
set_option maxRecDepth 100000 in
set_option maxHeartbeats 8000000 in
theorem lives20_any (a : Nat → Addr) (B : Nat) (w : World) (hE : Env B a w) : Calls Tryd.prog 15 #[] w fun ev w' => ev = .returned (.bool true) ∧ Below w.heap.size w w' := by
  have HE := Lib.hid hE
  have k3 : l3.length = 3 := rfl
  obtain ⟨vr, evr, Hvr, Zvr, Ivr, Ovr⟩ := row_of (treeB l3 0 3) (treeB_len _ _ _)
  obtain ⟨vt, evt, Hvt, Zvt, Ivt, Ovt⟩ := row_of (treeB l3 0 2) (treeB_len _ _ _)
  obtain ⟨vl, evl, Hvl, Zvl, Ivl, Ovl⟩ := row_of (leafH ⟨#[97]⟩) (leafH_length _)
  have HROOT : Hid (∀ base b v w, Env B a w → LogAt base b v l3 w → Calls Tryd.prog 11 #[.pointer (some ⟨b, 0, none⟩), .int .u64 3] w fun ev w' => ev = .returned (.tuple #[.agg vr, .nilIface]) ∧ Below w.heap.size w w') := Lib.hid (fun base b v w h1 h2 => by
    have := lroot_ok a B base b v l3 3 w h1 h2 (by omega) (by decide)
    rw [evr] at this; exact this)
  have HROOT2 : Hid (∀ base b v w, Env B a w → LogAt base b v l3 w → Calls Tryd.prog 11 #[.pointer (some ⟨b, 0, none⟩), .int .u64 2] w fun ev w' => ev = .returned (.tuple #[.agg vt, .nilIface]) ∧ Below w.heap.size w w') := Lib.hid (fun base b v w h1 h2 => by
    have := lroot_ok a B base b v l3 2 w h1 h2 (by omega) (by decide)
    rw [evt] at this; exact this)
  have HR4 : Hid (∀ base b v w, Env B a w → LogAt base b v l3 w → Calls Tryd.prog 11 #[.pointer (some ⟨b, 0, none⟩), .int .u64 4] w fun ev w' => ev = .returned (.tuple #[hv zeroH, .iface 169 (.pointer (some (a 5)))]) ∧ Below w.heap.size w w') := Lib.hid (fun base b v w h1 h2 =>
    lroot_over a B base b v l3 4 w h1 h2 (by decide) (by omega))
  obtain ⟨pl, hpl⟩ : ∃ z, treesB l3 (pathL 64 0 0 3) = z := ⟨_, rfl⟩
  obtain ⟨ql, hql⟩ : ∃ z, treesB l3 (proofL 64 2 0 3) = z := ⟨_, rfl⟩
  obtain ⟨tl, htl⟩ : ∃ z, treesB l3 (batchL 64 1 2 0 3) = z := ⟨_, rfl⟩
  have hpl2 : pl.length = 2 := by rw [← hpl]; exact l3_path
  have HPATH : Hid (∀ base b v w, Env B a w → LogAt base b v l3 w → Calls Tryd.prog 22 #[.pointer (some ⟨b, 0, none⟩), .int .u64 0, .int .u64 3] w (HashesPost w pl)) := Lib.hid (fun base b v w h1 h2 => by
    have := lpath_ok a B base b v l3 0 3 w h1 h2 (by omega) (by omega) (by decide)
    rw [hpl] at this; exact this)
  have HPROOF : Hid (∀ base b v w, Env B a w → LogAt base b v l3 w → Calls Tryd.prog 23 #[.pointer (some ⟨b, 0, none⟩), .int .u64 2, .int .u64 3] w (HashesPost w ql)) := Lib.hid (fun base b v w h1 h2 => by
    have := lproof_ok a B base b v l3 2 3 w h1 h2 (by omega) (by omega) (by decide)
    rw [hql] at this; exact this)
  have HBATCH : Hid (∀ base b v w, Env B a w → LogAt base b v l3 w → Calls Tryd.prog 24 #[.pointer (some ⟨b, 0, none⟩), .int .u64 1, .int .u64 2, .int .u64 3] w (HashesPost w tl)) := Lib.hid (fun base b v w h1 h2 => by
    have := lbatch_ok a B base b v l3 1 2 3 w h1 h2 (by omega) (by omega) (by omega) (by decide)
    rw [htl] at this; exact this)
  have HFI : Hid (∀ base b v A m c w, Env B a w → LogAt base b v l3 w → HIn w A m c pl → Calls Tryd.prog 10 #[.pointer (some ⟨b, 0, none⟩), .int .u64 0, .int .u64 3, .string ⟨#[97]⟩, .slice A m c] w fun ev w' => (∃ s, ev = .returned (.tuple #[.string s, .string s, .bool false]) ∧ bOf s = soB l3 3) ∧ Below w.heap.size w w') := Lib.hid (fun base b v A m c w h1 h2 h3 =>
    finc_so a B base b v l3 0 3 ⟨#[97]⟩ A m c w h1 h2 (by omega) (by decide) rfl (by rw [← hpl] at h3; exact h3))
  have HFN : Hid (∀ base b v A m c w, Env B a w → LogAt base b v l3 w → Calls Tryd.prog 10 #[.pointer (some ⟨b, 0, none⟩), .int .u64 0, .int .u64 4, .string ⟨#[120]⟩, .slice A m c] w fun ev w' => ev = .returned (.tuple #[.string ⟨#[]⟩, .string ⟨#[]⟩, .bool false]) ∧ Below w.heap.size w w') := Lib.hid (fun base b v A m c w h1 h2 =>
    finc_none (.pointer (some ⟨b, 0, none⟩)) 0 4 ⟨#[120]⟩ A m c w (a 5) (fun w' hb => HR4.out base b v w' (h1.step hb) (h2.below hb)))
  have HFC : Hid (∀ base b v A m c w, Env B a w → LogAt base b v l3 w → HIn w A m c ql → Calls Tryd.prog 18 #[.pointer (some ⟨b, 0, none⟩), .int .u64 2, .int .u64 3, .agg vt, .slice A m c] w fun ev w' => (∃ s, ev = .returned (.tuple #[.string s, .string s, .bool false]) ∧ bOf s = soB l3 3) ∧ Below w.heap.size w w') := Lib.hid (fun base b v A m c w h1 h2 h3 => by
    have := fcon_so a B base b v l3 2 3 A m c w h1 h2 (by omega) (by omega) (by decide) (by rw [← hql] at h3; exact h3)
    rw [show ((2 : Nat) : Int) = 2 from rfl, show ((3 : Nat) : Int) = 3 from rfl, evt] at this; exact this)
  have HFB : Hid (∀ (base b : Nat) (v : Value) (A : Option Addr) (m c : Nat) (w0 : World), Env B a (w0.alloc (.cells #[.string ⟨#[98]⟩] 9)) → LogAt base b v l3 (w0.alloc (.cells #[.string ⟨#[98]⟩] 9)) → HIn (w0.alloc (.cells #[.string ⟨#[98]⟩] 9)) A m c tl → Calls Tryd.prog 20 #[.pointer (some ⟨b, 0, none⟩), .int .u64 1, .int .u64 3, .slice (some ⟨w0.heap.size, 0, none⟩) 1 1, .slice A m c] (w0.alloc (.cells #[.string ⟨#[98]⟩] 9)) fun ev w' => (∃ s, ev = .returned (.tuple #[.string s, .string s, .bool false]) ∧ bOf s = soB l3 3) ∧ Below (w0.alloc (.cells #[.string ⟨#[98]⟩] 9)).heap.size (w0.alloc (.cells #[.string ⟨#[98]⟩] 9)) w') := Lib.hid (fun base b v A m c w0 h1 h2 h3 => by
    have e1 : ((1 : Nat) : Int) = 1 := rfl
    have e2 : ((2 : Nat) : Int) = 2 := rfl
    have e3 : ((3 : Nat) : Int) = 3 := rfl
    have hS : SIn (w0.alloc (.cells #[.string ⟨#[98]⟩] 9)) (some ⟨w0.heap.size, 0, none⟩) 1 1 [(⟨#[98]⟩ : ByteArray)] := ⟨rfl, by omega, by omega, by intro s hs; simp at hs; subst hs; decide, by omega, .inr ⟨_, _, rfl, fun j u hu => by
      rw [Nat.zero_add]
      refine cell_new _ _ j u ?_
      match j, hu with
      | 0, hu => exact hu
      | j + 1, hu => simp at hu⟩⟩
    have hD : (l3.drop 1).take (2 - 1) = [(⟨#[98]⟩ : ByteArray)] := rfl
    have := fbat_so a B base b v l3 1 2 3 (some ⟨w0.heap.size, 0, none⟩) 1 A m c _ h1 h2 (by omega) (by omega) (by decide) (by rw [hD]; exact hS) (by rw [e1, e2, e3, htl]; exact h3)
    rw [e1, e3] at this
    exact this)
  have HLF : Hid (∀ w, Env B a w → Calls Tryd.prog 13 #[.string ⟨#[97]⟩] w fun ev w' => ev = .returned (.agg vl) ∧ Below w.heap.size w w') := Lib.hid (fun w e => by
    have := hleaf_any ⟨#[97]⟩ w (by decide) e.tab
    rw [evl] at this; exact this)
  have HIN : Hid (∀ A c w, Env B a w → HIn w A 2 c pl → Calls Tryd.prog 12 #[.int .u64 0, .int .u64 3, .agg vl, .slice A 2 c, .agg vr] w fun e w' => e = .returned .nilIface ∧ Below w.heap.size w w') := Lib.hid (fun A c w e q => by
    have := t_incl a B l3 3 0 2 c A w e (by decide) (by decide) (by omega) (by rw [← hpl] at q; exact q)
    rw [show ((0 : Nat) : Int) = 0 from rfl, show ((3 : Nat) : Int) = 3 from rfl, evr, show leafG l3 0 = leafH ⟨#[97]⟩ from rfl, evl] at this; exact this)
  have HIS : Hid (∀ w, Env B a w → Calls Tryd.prog 12 #[.int .u64 0, .int .u64 3, .agg vl, .slice none 0 0, .agg vr] w fun e w' => e = .returned (.iface 169 (.pointer (some (a 10)))) ∧ Below w.heap.size w w') := Lib.hid (fun w e => by
    have := vincl_short a B _ _ w e (leafH_length ⟨#[97]⟩) (treeB_len l3 0 3)
    rw [evl, evr] at this; exact this)
  have HI10 : Hid (∀ w, Env B a w → Calls Tryd.prog 36 #[.iface 169 (.pointer (some (a 10))), .int .i64 10] w fun e w' => e = .returned (.bool true) ∧ Below w.heap.size w w') := Lib.hid (fun w e => is_sent a B 10 w e.laid (by omega) (by omega))
  have HSHA : Hid (shaB (soB l3 3) = treeB l3 0 3 ∧ soB l3 3 ≠ [] ∧ (soB l3 3).length ≤ 70000) := Lib.hid ⟨soB_sha (L := l3) (sz := 3) (by omega) (by decide) (by decide), soB_ne _ _, soB_len (L := l3) (sz := 3) (by omega) (by decide) ⟨by decide, by intro s hs; simp [l3] at hs; rcases hs with rfl | rfl | rfl <;> decide⟩⟩
  have HSMA : Hid (∀ (s : ByteArray) (w : World), bOf s = soB l3 3 → Env B a (w.alloc (.cells #[.string s] 9)) → Calls Tryd.prog 35 #[.slice (some ⟨w.heap.size, 0, none⟩) 1 1] (w.alloc (.cells #[.string s] 9)) fun ev w' => ev = .returned (.agg vr) ∧ Below (w.alloc (.cells #[.string s] 9)).heap.size (w.alloc (.cells #[.string s] 9)) w') := Lib.hid (fun s w hs e => by
    have := sum1_any a B s w (by have := HSHA.out.2.2; rw [← hs, bOf_length] at this; omega) e
    rw [hs, HSHA.out.1, evr] at this; exact this)
  have hqr : ∀ w, (Op.equalIn 10000 34 (.agg vr) (.agg vr)).run Tryd.prog w = .ok true w := fun w => by rw [eq_hash _ _ (treeB_len l3 0 3) (treeB_len l3 0 3) vr vr evr evr w]; simp
  have HSIN : Hid (SIn (w.alloc (.cells #[.string ⟨#[97]⟩, .string ⟨#[98]⟩, .string ⟨#[99]⟩] 9)) (some ⟨w.heap.size, 0, none⟩) 3 3 l3) := Lib.hid ⟨rfl, by omega, by omega, by intro s hs; simp [l3] at hs; rcases hs with rfl | rfl | rfl <;> decide, by omega, .inr ⟨_, _, rfl, fun j u hu => by
    rw [Nat.zero_add]
    refine cell_new _ _ j u ?_
    match j, hu with
    | 0, hu => exact hu
    | 1, hu => exact hu
    | 2, hu => exact hu
    | j + 3, hu => simp [l3] at hu⟩⟩
  have b0 : Gr w (w.alloc (.cells #[.string ⟨#[97]⟩, .string ⟨#[98]⟩, .string ⟨#[99]⟩] 9)) := (Gr.refl w).alloc _
  obtain ⟨w0, hw0⟩ : ∃ w0, (w.alloc (.cells #[.string ⟨#[97]⟩, .string ⟨#[98]⟩, .string ⟨#[99]⟩] 9)) = w0 := ⟨_, rfl⟩
  rw [hw0] at HSIN b0
  have HW0 := Lib.hid hw0
  have b0 : Below w.heap.size w w0 := b0
  clear hE hw0 evr evt evl hpl hql htl k3
  go_enter Tryd.func15, Tryd.ntmps15
  go_wp2_with fail
  rw [HW0.out]
  refine (logs20_any a B l3 _ 3 3 w0 (HE.out.step (show Gr w w0 from (by repeat (first | exact Gr.refl _ | (refine Gr.step ?_ (by assumption)) | (refine Gr.alloc ?_ _) | (refine Gr.drew ?_))))) HSIN.out (by omega)).mono ?_
  rintro ev w1 ⟨b, v, b2, rfl, hL1, b1⟩
  rw [l3_kept] at hL1
  have HL1 := Lib.hid hL1
  clear hL1
  go_wp2_with fail
  refine (HPATH.out _ b v w1 (HE.out.step (show Gr w w1 from (by repeat (first | exact Gr.refl _ | (refine Gr.step ?_ (by assumption)) | (refine Gr.alloc ?_ _) | (refine Gr.drew ?_))))) HL1.out).mono ?_
  rintro ev w2 ⟨hp32, vv, rfl, ho, b20⟩
  obtain ⟨A2, c2, rfl, hc0⟩ := own_shape ho
  have H2 := Lib.hid (own_hin ho hp32 rfl)
  clear ho hp32 hc0
  rw [hpl2] at H2 ⊢
  go_wp2_with fail
  refine (HROOT.out _ b v w2 (HE.out.step (show Gr w w2 from (by repeat (first | exact Gr.refl _ | (refine Gr.step ?_ (by assumption)) | (refine Gr.alloc ?_ _) | (refine Gr.drew ?_))))) (HL1.out.below (show Gr w1 w2 from (by repeat (first | exact Gr.refl _ | (refine Gr.step ?_ (by assumption)) | (refine Gr.alloc ?_ _) | (refine Gr.drew ?_)))))).mono ?_
  rintro ev w3 ⟨rfl, b3⟩
  go_upto_region 6 with (refine wpList_store_row_any rfl 34 _ _ rfl w3.heap.size vr rfl rfl 34 _ (heap_at _ _ _ rfl) Ivr.out (by rw [Zvr.out]; rfl) Ovr.out ?_; intro w4 hbN hgN hsN; have b4 : Below w3.heap.size w3 w4 := ((Below.refl _ w3).alloc (Nat.le_refl _) _).trans (hbN.to_below (by simp) (fun k hk q => by omega)); have Rw4 := Lib.hid hgN; clear hbN hgN hsN)
  go_wp2_with fail
  refine (HFI.out _ b v A2 2 c2 w4 (HE.out.step (show Gr w w4 from (by repeat (first | exact Gr.refl _ | (refine Gr.step ?_ (by assumption)) | (refine Gr.alloc ?_ _) | (refine Gr.drew ?_))))) (HL1.out.below (show Gr w1 w4 from (by repeat (first | exact Gr.refl _ | (refine Gr.step ?_ (by assumption)) | (refine Gr.alloc ?_ _) | (refine Gr.drew ?_))))) (H2.out.below (show Gr w2 w4 from (by repeat (first | exact Gr.refl _ | (refine Gr.step ?_ (by assumption)) | (refine Gr.alloc ?_ _) | (refine Gr.drew ?_)))))).mono ?_
  rintro ev w5 ⟨⟨s, rfl, hs⟩, b5⟩
  have HS := Lib.hid hs
  clear hs
  go_wp2_with fail
  refine (HFN.out _ b v A2 2 c2 w5 (HE.out.step (show Gr w w5 from (by repeat (first | exact Gr.refl _ | (refine Gr.step ?_ (by assumption)) | (refine Gr.alloc ?_ _) | (refine Gr.drew ?_))))) (HL1.out.below (show Gr w1 w5 from (by repeat (first | exact Gr.refl _ | (refine Gr.step ?_ (by assumption)) | (refine Gr.alloc ?_ _) | (refine Gr.drew ?_)))))).mono ?_
  rintro ev w6 ⟨rfl, b6⟩
  go_wp2_with fail
  refine (HPROOF.out _ b v w6 (HE.out.step (show Gr w w6 from (by repeat (first | exact Gr.refl _ | (refine Gr.step ?_ (by assumption)) | (refine Gr.alloc ?_ _) | (refine Gr.drew ?_))))) (HL1.out.below (show Gr w1 w6 from (by repeat (first | exact Gr.refl _ | (refine Gr.step ?_ (by assumption)) | (refine Gr.alloc ?_ _) | (refine Gr.drew ?_)))))).mono ?_
  rintro ev w7 ⟨hp32, vv, rfl, ho, b7⟩
  obtain ⟨A7, c7, rfl, hc0⟩ := own_shape ho
  have H7 := Lib.hid (own_hin ho hp32 rfl)
  clear ho hp32 hc0
  generalize hq7 : ql.length = n7
  rw [hq7] at H7
  clear hq7
  go_wp2_with fail
  refine (HROOT2.out _ b v w7 (HE.out.step (show Gr w w7 from (by repeat (first | exact Gr.refl _ | (refine Gr.step ?_ (by assumption)) | (refine Gr.alloc ?_ _) | (refine Gr.drew ?_))))) (HL1.out.below (show Gr w1 w7 from (by repeat (first | exact Gr.refl _ | (refine Gr.step ?_ (by assumption)) | (refine Gr.alloc ?_ _) | (refine Gr.drew ?_)))))).mono ?_
  rintro ev w8 ⟨rfl, b8⟩
  go_upto_region 10 with (refine wpList_store_row_any rfl 34 _ _ rfl w8.heap.size vt rfl rfl 34 _ (heap_at _ _ _ rfl) Ivt.out (by rw [Zvt.out]; rfl) Ovt.out ?_; intro w9 hbN hgN hsN; have b9 : Below w8.heap.size w8 w9 := ((Below.refl _ w8).alloc (Nat.le_refl _) _).trans (hbN.to_below (by simp) (fun k hk q => by omega)); have Rw9 := Lib.hid hgN; clear hbN hgN hsN)
  go_wp2_with fail
  refine (HBATCH.out _ b v w9 (HE.out.step (show Gr w w9 from (by repeat (first | exact Gr.refl _ | (refine Gr.step ?_ (by assumption)) | (refine Gr.alloc ?_ _) | (refine Gr.drew ?_))))) (HL1.out.below (show Gr w1 w9 from (by repeat (first | exact Gr.refl _ | (refine Gr.step ?_ (by assumption)) | (refine Gr.alloc ?_ _) | (refine Gr.drew ?_)))))).mono ?_
  rintro ev w10 ⟨hp32, vv, rfl, ho, b10⟩
  obtain ⟨A10, c10, rfl, hc0⟩ := own_shape ho
  have H10 := Lib.hid (own_hin ho hp32 rfl)
  clear ho hp32 hc0
  generalize hq10 : tl.length = n10
  rw [hq10] at H10
  clear hq10
  have RT9 : Hid (w10.heap[w8.heap.size]? = some (.cells vt 34 (0, 0))) := Lib.hid ((Below.block (show Gr w9 w10 from (by repeat (first | exact Gr.refl _ | (refine Gr.step ?_ (by assumption)) | (refine Gr.alloc ?_ _) | (refine Gr.drew ?_)))) _ (Array.getElem?_eq_some_iff.1 Rw9.out).1).trans Rw9.out)
  go_wp2_with (refine wpList_load_row rfl 34 _ rfl w8.heap.size rfl 34 vt (0, 0) _ RT9.out Tryd.underlying34 rfl Ivt.out ?_)
  refine (HFC.out _ b v A7 n7 c7 w10 (HE.out.step (show Gr w w10 from (by repeat (first | exact Gr.refl _ | (refine Gr.step ?_ (by assumption)) | (refine Gr.alloc ?_ _) | (refine Gr.drew ?_))))) (HL1.out.below (show Gr w1 w10 from (by repeat (first | exact Gr.refl _ | (refine Gr.step ?_ (by assumption)) | (refine Gr.alloc ?_ _) | (refine Gr.drew ?_))))) (H7.out.below (show Gr w7 w10 from (by repeat (first | exact Gr.refl _ | (refine Gr.step ?_ (by assumption)) | (refine Gr.alloc ?_ _) | (refine Gr.drew ?_)))))).mono ?_
  rintro ev w11 ⟨⟨s2, rfl, hs2⟩, b11⟩
  obtain rfl : s = s2 := bOf_inj (HS.out.trans hs2.symm)
  clear hs2
  have b12 : Below w11.heap.size w11 (w11.alloc (.cells #[.string ⟨#[98]⟩] 9)) := (Below.refl _ _).alloc (Nat.le_refl _) _
  go_wp2_with fail
  refine (HFB.out _ b v A10 n10 c10 w11 (HE.out.step (show Gr w _ from (by repeat (first | exact Gr.refl _ | (refine Gr.step ?_ (by assumption)) | (refine Gr.alloc ?_ _) | (refine Gr.drew ?_))))) (HL1.out.below (show Gr w1 _ from (by repeat (first | exact Gr.refl _ | (refine Gr.step ?_ (by assumption)) | (refine Gr.alloc ?_ _) | (refine Gr.drew ?_))))) (H10.out.below (show Gr w10 _ from (by repeat (first | exact Gr.refl _ | (refine Gr.step ?_ (by assumption)) | (refine Gr.alloc ?_ _) | (refine Gr.drew ?_)))))).mono ?_
  rintro ev wz ⟨⟨s3, rfl, hs3⟩, b13⟩
  obtain rfl : s = s3 := bOf_inj (HS.out.trans hs3.symm)
  clear hs3
  have HBZ : Hid (Below w.heap.size w wz) := Lib.hid (show Gr w wz from (Gr.step (Gr.step (Gr.step (Gr.step (Gr.step (Gr.step (Gr.step (Gr.step (Gr.step (Gr.step (Gr.step (Gr.step (Gr.step (Gr.step (Gr.refl _) b0) b1) b20) b3) b4) b5) b6) b7) b8) b9) b10) b11) b12) b13))
  have HEZ := Lib.hid (HE.out.step HBZ.out)
  have KR : Hid (∀ w', Gr wz w' → w'.heap[w3.heap.size]? = some (.cells vr 34 (0, 0))) := Lib.hid (fun w' h => (Below.block (show Gr w4 w' from Gr.step (show Gr w4 wz from (Gr.step (Gr.step (Gr.step (Gr.step (Gr.step (Gr.step (Gr.step (Gr.step (Gr.step (Gr.refl _) b5) b6) b7) b8) b9) b10) b11) b12) b13)) h) _ (Array.getElem?_eq_some_iff.1 Rw4.out).1).trans Rw4.out)
  have HPZ := Lib.hid (H2.out.below (show Gr w2 wz from (Gr.step (Gr.step (Gr.step (Gr.step (Gr.step (Gr.step (Gr.step (Gr.step (Gr.step (Gr.step (Gr.step (Gr.refl _) b3) b4) b5) b6) b7) b8) b9) b10) b11) b12) b13)))
  have HSM : Hid (∀ w : World, Env B a (w.alloc (.cells #[.string s] 9)) → Calls Tryd.prog 35 #[.slice (some ⟨w.heap.size, 0, none⟩) 1 1] (w.alloc (.cells #[.string s] 9)) fun ev w' => ev = .returned (.agg vr) ∧ Below (w.alloc (.cells #[.string s] 9)).heap.size (w.alloc (.cells #[.string s] 9)) w') := Lib.hid (fun w e => HSMA.out s w HS.out e)
  have HIN := Lib.hid (HIN.out A2 c2)
  have hss := bytes_self s
  have hse : s.toList.isEmpty = false := by
    rw [Go.ByteArray.toList_eq, show s.data.toList = soB l3 3 from HS.out]
    cases h : soB l3 3 with
    | nil => exact absurd h HSHA.out.2.1
    | cons x r => rfl
  clear b0 b1 b20 b3 b4 b5 b6 b7 b8 b9 b10 b11 b12 b13 hpl2
  go_wp2_with fail
  refine wp_region_held_drew (S := Gr wz) (by kernel_rfl) (Gr.refl wz).drew (fun hHeld => ?_)
  refine wpAnyH_take (i := 0) (v := ?tv1) rfl (by kernel_rfl) (by kernel_rfl) (by kernel_rfl) (fun _ _ _ h => h) (Or.inl ⟨by rfl, ?ty1⟩) (by assumption) ?tr1
  case ty1 => (intro w hSw; (try dsimp only at hSw); go_simp; (try with_reducible rfl))
  try simp only [Act.put, List.getElem_toArray, List.getElem_cons_zero, List.setIfInBounds_toArray, List.set_cons_zero, List.set_cons_succ]
  refine wpAnyH_take (i := 1) (v := ?tv2) rfl (by kernel_rfl) (by kernel_rfl) (by kernel_rfl) (fun _ _ _ h => h) (Or.inl ⟨by rfl, ?ty2⟩) (by assumption) ?tr2
  case ty2 => (intro w hSw; (try dsimp only at hSw); go_simp; (try with_reducible rfl))
  try simp only [Act.put, List.getElem_toArray, List.getElem_cons_zero, List.getElem_cons_succ, List.setIfInBounds_toArray, List.set_cons_zero, List.set_cons_succ]
  refine wpAnyH_take (i := 2) (v := ?tv3) rfl (by kernel_rfl) (by kernel_rfl) (by kernel_rfl) (fun _ _ _ h => h) (Or.inl ⟨by rfl, ?ty3⟩) (by assumption) ?tr3
  case ty3 => (intro w hSw; (try dsimp only at hSw); go_simp; (try with_reducible rfl))
  try simp only [Act.put, List.getElem_toArray, List.getElem_cons_zero, List.getElem_cons_succ, List.setIfInBounds_toArray, List.set_cons_zero, List.set_cons_succ]
  refine wpAnyH_take (i := 3) (v := ?tv4) rfl (by kernel_rfl) (by kernel_rfl) (by kernel_rfl) (fun _ _ _ h => h) (Or.inl ⟨by rfl, ?ty4⟩) (by assumption) ?tr4
  case ty4 => (intro w hSw; (try dsimp only at hSw); go_simp; (try with_reducible rfl))
  try simp only [Act.put, List.getElem_toArray, List.getElem_cons_zero, List.getElem_cons_succ, List.setIfInBounds_toArray, List.set_cons_zero, List.set_cons_succ]
  refine wpAnyH_take (i := 4) (v := ?tv5) rfl (by kernel_rfl) (by kernel_rfl) (by kernel_rfl) (fun _ _ _ h => h) (Or.inl ⟨by rfl, ?ty5⟩) (by assumption) ?tr5
  case ty5 => (intro w hSw; (try dsimp only at hSw); go_simp; (try with_reducible rfl))
  try simp only [Act.put, List.getElem_toArray, List.getElem_cons_zero, List.getElem_cons_succ, List.setIfInBounds_toArray, List.set_cons_zero, List.set_cons_succ]
  refine wpAnyH_take (i := 5) (v := ?tv6) rfl (by kernel_rfl) (by kernel_rfl) (by kernel_rfl) (fun _ _ _ h => h) (Or.inl ⟨by rfl, ?ty6⟩) (by assumption) ?tr6
  case ty6 => (intro w hSw; (try dsimp only at hSw); go_simp; (try with_reducible rfl))
  try simp only [Act.put, List.getElem_toArray, List.getElem_cons_zero, List.getElem_cons_succ, List.setIfInBounds_toArray, List.set_cons_zero, List.set_cons_succ]
  refine wpAnyH_take (i := 6) (v := ?tv7) rfl (by kernel_rfl) (by kernel_rfl) (by kernel_rfl) (fun _ _ _ h => h) (Or.inl ⟨by rfl, ?ty7⟩) (by assumption) ?tr7
  case ty7 => (intro w hSw; (try dsimp only at hSw); go_simp; (try with_reducible rfl))
  try simp only [Act.put, List.getElem_toArray, List.getElem_cons_zero, List.getElem_cons_succ, List.setIfInBounds_toArray, List.set_cons_zero, List.set_cons_succ]
  refine wpAnyH_take (i := 7) (v := ?tv8) rfl (by kernel_rfl) (by kernel_rfl) (by kernel_rfl) (fun _ _ _ h => h) (Or.inl ⟨by rfl, ?ty8⟩) (by assumption) ?tr8
  case ty8 => (intro w hSw; (try dsimp only at hSw); go_simp; (try with_reducible rfl))
  try simp only [Act.put, List.getElem_toArray, List.getElem_cons_zero, List.getElem_cons_succ, List.setIfInBounds_toArray, List.set_cons_zero, List.set_cons_succ]
  refine wpAnyH_take (i := 8) (v := ?tv9) rfl (by kernel_rfl) (by kernel_rfl) (by kernel_rfl) (fun _ _ _ h => h) (Or.inl ⟨by rfl, ?ty9⟩) (by assumption) ?tr9
  case ty9 => (intro w hSw; (try dsimp only at hSw); go_simp; (try with_reducible rfl))
  try simp only [Act.put, List.getElem_toArray, List.getElem_cons_zero, List.getElem_cons_succ, List.setIfInBounds_toArray, List.set_cons_zero, List.set_cons_succ]
  refine wpAnyH_take (i := 9) (v := ?tv10) rfl (by kernel_rfl) (by kernel_rfl) (by kernel_rfl) (fun _ _ _ h => h) (Or.inl ⟨by rfl, ?ty10⟩) (by assumption) ?tr10
  case ty10 => (intro w hSw; (try dsimp only at hSw); go_simp; (try with_reducible rfl))
  try simp only [Act.put, List.getElem_toArray, List.getElem_cons_zero, List.getElem_cons_succ, List.setIfInBounds_toArray, List.set_cons_zero, List.set_cons_succ]
  refine wpAnyH_take (i := 10) (v := ?tv11) rfl (by kernel_rfl) (by kernel_rfl) (by kernel_rfl) (fun _ _ _ h => h) (Or.inl ⟨by rfl, ?ty11⟩) (by assumption) ?tr11
  case ty11 => (intro w hSw; (try dsimp only at hSw); go_simp; (try with_reducible rfl))
  try simp only [Act.put, List.getElem_toArray, List.getElem_cons_zero, List.getElem_cons_succ, List.setIfInBounds_toArray, List.set_cons_zero, List.set_cons_succ]
  refine wpAnyH_take (i := 11) (v := ?tv12) rfl (by kernel_rfl) (by kernel_rfl) (by kernel_rfl) (fun _ _ _ h => h) (Or.inl ⟨by rfl, ?ty12⟩) (by assumption) ?tr12
  case ty12 => (intro w hSw; (try dsimp only at hSw); go_simp; (try with_reducible rfl))
  try simp only [Act.put, List.getElem_toArray, List.getElem_cons_zero, List.getElem_cons_succ, List.setIfInBounds_toArray, List.set_cons_zero, List.set_cons_succ]
  refine wpAnyH_take (i := 12) (v := ?tv13) rfl (by kernel_rfl) (by kernel_rfl) (by kernel_rfl) (fun _ _ _ h => h) (Or.inl ⟨by rfl, ?ty13⟩) (by assumption) ?tr13
  case ty13 => (intro w hSw; (try dsimp only at hSw); go_simp; (try with_reducible rfl))
  try simp only [Act.put, List.getElem_toArray, List.getElem_cons_zero, List.getElem_cons_succ, List.setIfInBounds_toArray, List.set_cons_zero, List.set_cons_succ]
  refine wpAnyH_take (i := 13) (v := ?tv14) rfl (by kernel_rfl) (by kernel_rfl) (by kernel_rfl) (fun _ _ _ h => h) (Or.inl ⟨by rfl, ?ty14⟩) (by assumption) ?tr14
  case ty14 => (intro w hSw; (try dsimp only at hSw); go_simp; (try with_reducible rfl))
  try simp only [Act.put, List.getElem_toArray, List.getElem_cons_zero, List.getElem_cons_succ, List.setIfInBounds_toArray, List.set_cons_zero, List.set_cons_succ]
  refine wpAnyH_take (i := 14) (v := ?tv15) rfl (by kernel_rfl) (by kernel_rfl) (by kernel_rfl) (fun _ _ _ h => h) (Or.inl ⟨by rfl, ?ty15⟩) (by assumption) ?tr15
  case ty15 => (intro w hSw; (try dsimp only at hSw); go_simp; (try with_reducible rfl))
  try simp only [Act.put, List.getElem_toArray, List.getElem_cons_zero, List.getElem_cons_succ, List.setIfInBounds_toArray, List.set_cons_zero, List.set_cons_succ]
  refine wpAnyH_take (i := 15) (v := ?tv16) rfl (by kernel_rfl) (by kernel_rfl) (by kernel_rfl) (fun _ _ _ h => h) (Or.inl ⟨by rfl, ?ty16⟩) (by assumption) ?tr16
  case ty16 => (intro w hSw; (try dsimp only at hSw); go_simp; (try with_reducible rfl))
  try simp only [Act.put, List.getElem_toArray, List.getElem_cons_zero, List.getElem_cons_succ, List.setIfInBounds_toArray, List.set_cons_zero, List.set_cons_succ]
  refine wpAnyH_take (i := 16) (v := ?tv17) rfl (by kernel_rfl) (by kernel_rfl) (by kernel_rfl) (fun _ _ _ h => h) (Or.inl ⟨by rfl, ?ty17⟩) (by assumption) ?tr17
  case ty17 => (intro w hSw; (try dsimp only at hSw); go_simp; (try with_reducible rfl))
  try simp only [Act.put, List.getElem_toArray, List.getElem_cons_zero, List.getElem_cons_succ, List.setIfInBounds_toArray, List.set_cons_zero, List.set_cons_succ]
  refine wpAnyH_take (i := 17) (v := ?tv18) rfl (by kernel_rfl) (by kernel_rfl) (by kernel_rfl) (fun _ _ _ h => h) (Or.inl ⟨by rfl, ?ty18⟩) (by assumption) ?tr18
  case ty18 => (intro w hSw; (try dsimp only at hSw); go_simp; (try with_reducible rfl))
  try simp only [Act.put, List.getElem_toArray, List.getElem_cons_zero, List.getElem_cons_succ, List.setIfInBounds_toArray, List.set_cons_zero, List.set_cons_succ]
  refine wpAnyH_take (i := 18) (v := ?tv19) rfl (by kernel_rfl) (by kernel_rfl) (by kernel_rfl) (fun _ _ _ h => h) (Or.inl ⟨by rfl, ?ty19⟩) (by assumption) ?tr19
  case ty19 => (intro w hSw; (try dsimp only at hSw); go_simp; (try with_reducible rfl))
  try simp only [Act.put, List.getElem_toArray, List.getElem_cons_zero, List.getElem_cons_succ, List.setIfInBounds_toArray, List.set_cons_zero, List.set_cons_succ]
  refine wpAnyH_take (i := 19) (v := ?tv20) rfl (by kernel_rfl) (by kernel_rfl) (by kernel_rfl) (fun _ _ _ h => h) (Or.inl ⟨by rfl, ?ty20⟩) (by assumption) ?tr20
  case ty20 => (intro w hSw; (try dsimp only at hSw); go_simp; (try with_reducible rfl))
  try simp only [Act.put, List.getElem_toArray, List.getElem_cons_zero, List.getElem_cons_succ, List.setIfInBounds_toArray, List.set_cons_zero, List.set_cons_succ]
  refine wpAnyH_take (i := 20) (v := ?tv21) rfl (by kernel_rfl) (by kernel_rfl) (by kernel_rfl) (fun _ _ _ h => h) (Or.inl ⟨by rfl, ?ty21⟩) (by assumption) ?tr21
  case ty21 => (intro w hSw; (try dsimp only at hSw); go_simp; (try with_reducible rfl))
  try simp only [Act.put, List.getElem_toArray, List.getElem_cons_zero, List.getElem_cons_succ, List.setIfInBounds_toArray, List.set_cons_zero, List.set_cons_succ]
  refine wpAnyH_take (i := 21) (v := ?tv22) rfl (by kernel_rfl) (by kernel_rfl) (by kernel_rfl) (fun _ _ _ h => h) (Or.inl ⟨by rfl, ?ty22⟩) (by assumption) ?tr22
  case ty22 => (intro w hSw; (try dsimp only at hSw); go_simp; (try with_reducible rfl))
  try simp only [Act.put, List.getElem_toArray, List.getElem_cons_zero, List.getElem_cons_succ, List.setIfInBounds_toArray, List.set_cons_zero, List.set_cons_succ]
  refine wpAnyH_take (i := 22) (v := ?tv23) rfl (by kernel_rfl) (by kernel_rfl) (by kernel_rfl) (fun _ _ _ h => h) (Or.inl ⟨by rfl, ?ty23⟩) (by assumption) ?tr23
  case ty23 => (intro w hSw; (try dsimp only at hSw); go_simp; (try with_reducible rfl))
  try simp only [Act.put, List.getElem_toArray, List.getElem_cons_zero, List.getElem_cons_succ, List.setIfInBounds_toArray, List.set_cons_zero, List.set_cons_succ]
  refine wpAnyH_take (i := 23) (v := ?tv24) rfl (by kernel_rfl) (by kernel_rfl) (by kernel_rfl) (fun _ _ _ h => h) (Or.inl ⟨by rfl, ?ty24⟩) (by assumption) ?tr24
  case ty24 => (intro w hSw; (try dsimp only at hSw); go_simp; (try with_reducible rfl))
  try simp only [Act.put, List.getElem_toArray, List.getElem_cons_zero, List.getElem_cons_succ, List.setIfInBounds_toArray, List.set_cons_zero, List.set_cons_succ]
  refine wpAnyH_take (i := 24) (v := ?tv25) rfl (by kernel_rfl) (by kernel_rfl) (by kernel_rfl) (fun _ _ _ h => h) (Or.inl ⟨by rfl, ?ty25⟩) (by assumption) ?tr25
  case ty25 => (intro w hSw; (try dsimp only at hSw); go_simp; (try with_reducible rfl))
  try simp only [Act.put, List.getElem_toArray, List.getElem_cons_zero, List.getElem_cons_succ, List.setIfInBounds_toArray, List.set_cons_zero, List.set_cons_succ]
  refine wpAnyH_take (i := 25) (v := ?tv26) rfl (by kernel_rfl) (by kernel_rfl) (by kernel_rfl) (fun _ _ _ h => h) (Or.inl ⟨by rfl, ?ty26⟩) (by assumption) ?tr26
  case ty26 => (intro w hSw; (try dsimp only at hSw); go_simp; (try with_reducible rfl))
  try simp only [Act.put, List.getElem_toArray, List.getElem_cons_zero, List.getElem_cons_succ, List.setIfInBounds_toArray, List.set_cons_zero, List.set_cons_succ]
  refine wpAnyH_take (i := 26) (v := ?tv27) rfl (by kernel_rfl) (by kernel_rfl) (by kernel_rfl) (fun _ _ _ h => h) (Or.inl ⟨by rfl, ?ty27⟩) (by assumption) ?tr27
  case ty27 => (intro w hSw; (try dsimp only at hSw); go_simp; (try with_reducible rfl))
  try simp only [Act.put, List.getElem_toArray, List.getElem_cons_zero, List.getElem_cons_succ, List.setIfInBounds_toArray, List.set_cons_zero, List.set_cons_succ]
  refine wpAnyH_take (i := 27) (v := ?tv28) rfl (by kernel_rfl) (by kernel_rfl) (by kernel_rfl) (fun _ _ _ h => h) (Or.inl ⟨by rfl, ?ty28⟩) (by assumption) ?tr28
  case ty28 => (intro w hSw; (try dsimp only at hSw); go_simp; (try with_reducible rfl))
  try simp only [Act.put, List.getElem_toArray, List.getElem_cons_zero, List.getElem_cons_succ, List.setIfInBounds_toArray, List.set_cons_zero, List.set_cons_succ]
  refine wpAnyH_take (i := 28) (v := ?tv29) rfl (by kernel_rfl) (by kernel_rfl) (by kernel_rfl) (fun _ _ _ h => h) (Or.inl ⟨by rfl, ?ty29⟩) (by assumption) ?tr29
  case ty29 => (intro w hSw; (try dsimp only at hSw); go_simp; (try with_reducible rfl))
  try simp only [Act.put, List.getElem_toArray, List.getElem_cons_zero, List.getElem_cons_succ, List.setIfInBounds_toArray, List.set_cons_zero, List.set_cons_succ]
  refine wpAnyH_take (i := 29) (v := ?tv30) rfl (by kernel_rfl) (by kernel_rfl) (by kernel_rfl) (fun _ _ _ h => h) (Or.inl ⟨by rfl, ?ty30⟩) (by assumption) ?tr30
  case ty30 => (intro w hSw; (try dsimp only at hSw); go_simp; (try with_reducible rfl))
  try simp only [Act.put, List.getElem_toArray, List.getElem_cons_zero, List.getElem_cons_succ, List.setIfInBounds_toArray, List.set_cons_zero, List.set_cons_succ]
  refine wpAnyH_take (i := 32) (v := _) rfl (by kernel_rfl) (by kernel_rfl) (by kernel_rfl) (fun _ _ _ h => h) (yieldsIf_load_row (by rfl) 34 _ (by rfl) w3.heap.size (by rfl) 34 vr (0, 0) _ (fun w h => KR.out w h) Tryd.underlying34 rfl Ivr.out) (by assumption) ?_
  try simp only [Act.put, List.getElem_toArray, List.getElem_cons_zero, List.getElem_cons_succ, List.setIfInBounds_toArray, List.set_cons_zero, List.set_cons_succ]
  refine wpAnyH_ready (rs := [30]) (by kernel_rfl) (by simp) ?_
  refine AllReadyH.cons (i := 30) rfl (fun K2 hK2 => ?_) AllReadyH.nil
  rw [if_pos (by rfl)]
  refine wp_buildSlice_str _ s rfl rfl ?_
  refine hK2.out _ _ (show Gr wz _ from (Gr.alloc (Gr.drew (Gr.refl _)) _)) (fun hHeld2 => ?_)
  clear hK2 K2
  try simp only [Act.put, List.getElem_toArray, List.getElem_cons_zero, List.getElem_cons_succ, List.setIfInBounds_toArray, List.set_cons_zero, List.set_cons_succ]
  refine wpAnyH_ready (rs := [31]) (by kernel_rfl) (by simp) ?_
  refine AllReadyH.cons (i := 31) rfl (fun K2 hK2 => ?_) AllReadyH.nil
  go_simp
  go_at_call 35
  refine (HSM.out _ (HEZ.out.step (show Gr wz (wz.drew.alloc (.cells #[.string s] 9)) from (by repeat (first | exact Gr.refl _ | (refine Gr.step ?_ (by assumption)) | (refine Gr.alloc ?_ _) | (refine Gr.drew ?_)))))).mono ?_
  rintro ev w101 ⟨rfl, b101⟩
  try go_wp2_with fail
  refine hK2.out _ _ (show Gr wz _ from (by repeat (first | exact Gr.refl _ | (refine Gr.step ?_ (by assumption)) | (refine Gr.alloc ?_ _) | (refine Gr.drew ?_)))) (fun hHeld2 => ?_)
  clear hK2 K2
  try simp only [Act.put, List.getElem_toArray, List.getElem_cons_zero, List.getElem_cons_succ, List.setIfInBounds_toArray, List.set_cons_zero, List.set_cons_succ]
  refine wpAnyH_take (i := 33) (v := ?tv32) rfl (by kernel_rfl) (by kernel_rfl) (by kernel_rfl) (fun _ _ _ h => h) (Or.inl ⟨by rfl, ?ty32⟩) (by assumption) ?tr32
  case ty32 => (intro w hSw; (try dsimp only at hSw); go_simp; (try with_reducible rfl))
  try simp only [Act.put, List.getElem_toArray, List.getElem_cons_zero, List.getElem_cons_succ, List.setIfInBounds_toArray, List.set_cons_zero, List.set_cons_succ]
  refine wpAnyH_take (i := 34) (v := ?tv33) rfl (by kernel_rfl) (by kernel_rfl) (by kernel_rfl) (fun _ _ _ h => h) (Or.inl ⟨by rfl, ?ty33⟩) (by assumption) ?tr33
  case ty33 => (intro w hSw; (try dsimp only at hSw); go_simp; (try with_reducible rfl))
  try simp only [Act.put, List.getElem_toArray, List.getElem_cons_zero, List.getElem_cons_succ, List.setIfInBounds_toArray, List.set_cons_zero, List.set_cons_succ]
  refine wpAnyH_take (i := 35) (v := ?tv34) rfl (by kernel_rfl) (by kernel_rfl) (by kernel_rfl) (fun _ _ _ h => h) (Or.inl ⟨by rfl, ?ty34⟩) (by assumption) ?tr34
  case ty34 => (intro w hSw; (try dsimp only at hSw); go_simp; (try with_reducible rfl))
  try simp only [Act.put, List.getElem_toArray, List.getElem_cons_zero, List.getElem_cons_succ, List.setIfInBounds_toArray, List.set_cons_zero, List.set_cons_succ]
  refine wpAnyH_take (i := 36) (v := ?tv35) rfl (by kernel_rfl) (by kernel_rfl) (by kernel_rfl) (fun _ _ _ h => h) (Or.inl ⟨by rfl, ?ty35⟩) (by assumption) ?tr35
  case ty35 => (intro w hSw; (try dsimp only at hSw); go_simp; (try with_reducible rfl))
  try simp only [Act.put, List.getElem_toArray, List.getElem_cons_zero, List.getElem_cons_succ, List.setIfInBounds_toArray, List.set_cons_zero, List.set_cons_succ]
  refine wpAnyH_take (i := 37) (v := ?tv36) rfl (by kernel_rfl) (by kernel_rfl) (by kernel_rfl) (fun _ _ _ h => h) (Or.inl ⟨by rfl, ?ty36⟩) (by assumption) ?tr36
  case ty36 => (intro w hSw; (try dsimp only at hSw); go_simp; (try with_reducible rfl))
  try simp only [Act.put, List.getElem_toArray, List.getElem_cons_zero, List.getElem_cons_succ, List.setIfInBounds_toArray, List.set_cons_zero, List.set_cons_succ]
  refine wpAnyH_take (i := 38) (v := ?tv37) rfl (by kernel_rfl) (by kernel_rfl) (by kernel_rfl) (fun _ _ _ h => h) (Or.inl ⟨by rfl, ?ty37⟩) (by assumption) ?tr37
  case ty37 => (intro w hSw; (try dsimp only at hSw); go_simp; (try with_reducible rfl))
  try simp only [Act.put, List.getElem_toArray, List.getElem_cons_zero, List.getElem_cons_succ, List.setIfInBounds_toArray, List.set_cons_zero, List.set_cons_succ]
  refine wpAnyH_take (i := 39) (v := ?tv38) rfl (by kernel_rfl) (by kernel_rfl) (by kernel_rfl) (fun _ _ _ h => h) (Or.inl ⟨by rfl, ?ty38⟩) (by assumption) ?tr38
  case ty38 => (intro w hSw; (try dsimp only at hSw); go_simp; (try with_reducible rfl))
  try simp only [Act.put, List.getElem_toArray, List.getElem_cons_zero, List.getElem_cons_succ, List.setIfInBounds_toArray, List.set_cons_zero, List.set_cons_succ]
  refine wpAnyH_take (i := 40) (v := ?tv39) rfl (by kernel_rfl) (by kernel_rfl) (by kernel_rfl) (fun _ _ _ h => h) (Or.inl ⟨by rfl, ?ty39⟩) (by assumption) ?tr39
  case ty39 => (intro w hSw; (try dsimp only at hSw); go_simp; (try with_reducible rfl))
  try simp only [Act.put, List.getElem_toArray, List.getElem_cons_zero, List.getElem_cons_succ, List.setIfInBounds_toArray, List.set_cons_zero, List.set_cons_succ]
  refine wpAnyH_take (i := 41) (v := ?tv40) rfl (by kernel_rfl) (by kernel_rfl) (by kernel_rfl) (fun _ _ _ h => h) (Or.inl ⟨by rfl, ?ty40⟩) (by assumption) ?tr40
  case ty40 => (intro w hSw; (try dsimp only at hSw); go_simp; (try with_reducible rfl))
  try simp only [Act.put, List.getElem_toArray, List.getElem_cons_zero, List.getElem_cons_succ, List.setIfInBounds_toArray, List.set_cons_zero, List.set_cons_succ]
  refine wpAnyH_take (i := 42) (v := ?tv41) rfl (by kernel_rfl) (by kernel_rfl) (by kernel_rfl) (fun _ _ _ h => h) (Or.inl ⟨by rfl, ?ty41⟩) (by assumption) ?tr41
  case ty41 => (intro w hSw; (try dsimp only at hSw); go_simp; (try with_reducible rfl))
  try simp only [Act.put, List.getElem_toArray, List.getElem_cons_zero, List.getElem_cons_succ, List.setIfInBounds_toArray, List.set_cons_zero, List.set_cons_succ]
  refine wpAnyH_take (i := 43) (v := ?tv42) rfl (by kernel_rfl) (by kernel_rfl) (by kernel_rfl) (fun _ _ _ h => h) (Or.inl ⟨by rfl, ?ty42⟩) (by assumption) ?tr42
  case ty42 => (intro w hSw; (try dsimp only at hSw); go_simp; (try with_reducible rfl))
  try simp only [Act.put, List.getElem_toArray, List.getElem_cons_zero, List.getElem_cons_succ, List.setIfInBounds_toArray, List.set_cons_zero, List.set_cons_succ]
  refine wpAnyH_take (i := 45) (v := ?tv43) rfl (by kernel_rfl) (by kernel_rfl) (by kernel_rfl) (fun _ _ _ h => h) (Or.inl ⟨by rfl, ?ty43⟩) (by assumption) ?tr43
  case ty43 => (intro w hSw; (try dsimp only at hSw); go_simp; (try with_reducible rfl))
  try simp only [Act.put, List.getElem_toArray, List.getElem_cons_zero, List.getElem_cons_succ, List.setIfInBounds_toArray, List.set_cons_zero, List.set_cons_succ]
  refine wpAnyH_take (i := 46) (v := _) rfl (by kernel_rfl) (by kernel_rfl) (by kernel_rfl) (fun _ _ _ h => h) (yieldsIf_load_row (by rfl) 34 _ (by rfl) w3.heap.size (by rfl) 34 vr (0, 0) _ (fun w h => KR.out w h) Tryd.underlying34 rfl Ivr.out) (by assumption) ?_
  try simp only [Act.put, List.getElem_toArray, List.getElem_cons_zero, List.getElem_cons_succ, List.setIfInBounds_toArray, List.set_cons_zero, List.set_cons_succ]
  refine wpAnyH_ready (rs := [44]) (by kernel_rfl) (by simp) ?_
  refine AllReadyH.cons (i := 44) rfl (fun K2 hK2 => ?_) AllReadyH.nil
  go_simp
  go_at_call 13
  refine (HLF.out w101 (HEZ.out.step (show Gr wz w101 from (by repeat (first | exact Gr.refl _ | (refine Gr.step ?_ (by assumption)) | (refine Gr.alloc ?_ _) | (refine Gr.drew ?_)))))).mono ?_
  rintro ev w102 ⟨rfl, b102⟩
  try go_wp2_with fail
  refine hK2.out _ _ (show Gr wz _ from (by repeat (first | exact Gr.refl _ | (refine Gr.step ?_ (by assumption)) | (refine Gr.alloc ?_ _) | (refine Gr.drew ?_)))) (fun hHeld2 => ?_)
  clear hK2 K2
  try simp only [Act.put, List.getElem_toArray, List.getElem_cons_zero, List.getElem_cons_succ, List.setIfInBounds_toArray, List.set_cons_zero, List.set_cons_succ]
  refine wpAnyH_ready (rs := [47]) (by kernel_rfl) (by simp) ?_
  refine AllReadyH.cons (i := 47) rfl (fun K2 hK2 => ?_) AllReadyH.nil
  go_simp
  go_at_call 12
  refine (HIN.out w102 (HEZ.out.step (show Gr wz w102 from (by repeat (first | exact Gr.refl _ | (refine Gr.step ?_ (by assumption)) | (refine Gr.alloc ?_ _) | (refine Gr.drew ?_))))) (HPZ.out.below (show Gr wz w102 from (by repeat (first | exact Gr.refl _ | (refine Gr.step ?_ (by assumption)) | (refine Gr.alloc ?_ _) | (refine Gr.drew ?_)))))).mono ?_
  rintro ev w103 ⟨rfl, b103⟩
  try go_wp2_with fail
  refine hK2.out _ _ (show Gr wz _ from (by repeat (first | exact Gr.refl _ | (refine Gr.step ?_ (by assumption)) | (refine Gr.alloc ?_ _) | (refine Gr.drew ?_)))) (fun hHeld2 => ?_)
  clear hK2 K2
  try simp only [Act.put, List.getElem_toArray, List.getElem_cons_zero, List.getElem_cons_succ, List.setIfInBounds_toArray, List.set_cons_zero, List.set_cons_succ]
  refine wpAnyH_take (i := 48) (v := ?tv45) rfl (by kernel_rfl) (by kernel_rfl) (by kernel_rfl) (fun _ _ _ h => h) (Or.inl ⟨by rfl, ?ty45⟩) (by assumption) ?tr45
  case ty45 => (intro w hSw; (try dsimp only at hSw); go_simp; (try with_reducible rfl))
  try simp only [Act.put, List.getElem_toArray, List.getElem_cons_zero, List.getElem_cons_succ, List.setIfInBounds_toArray, List.set_cons_zero, List.set_cons_succ]
  refine wpAnyH_take (i := 49) (v := ?tv46) rfl (by kernel_rfl) (by kernel_rfl) (by kernel_rfl) (fun _ _ _ h => h) (Or.inl ⟨by rfl, ?ty46⟩) (by assumption) ?tr46
  case ty46 => (intro w hSw; (try dsimp only at hSw); go_simp; (try with_reducible rfl))
  try simp only [Act.put, List.getElem_toArray, List.getElem_cons_zero, List.getElem_cons_succ, List.setIfInBounds_toArray, List.set_cons_zero, List.set_cons_succ]
  refine wpAnyH_take (i := 50) (v := ?tv47) rfl (by kernel_rfl) (by kernel_rfl) (by kernel_rfl) (fun _ _ _ h => h) (Or.inl ⟨by rfl, ?ty47⟩) (by assumption) ?tr47
  case ty47 => (intro w hSw; (try dsimp only at hSw); go_simp; (try with_reducible rfl))
  try simp only [Act.put, List.getElem_toArray, List.getElem_cons_zero, List.getElem_cons_succ, List.setIfInBounds_toArray, List.set_cons_zero, List.set_cons_succ]
  refine wpAnyH_take (i := 52) (v := _) rfl (by kernel_rfl) (by kernel_rfl) (by kernel_rfl) (fun _ _ _ h => h) (yieldsIf_load_row (by rfl) 34 _ (by rfl) w3.heap.size (by rfl) 34 vr (0, 0) _ (fun w h => KR.out w h) Tryd.underlying34 rfl Ivr.out) (by assumption) ?_
  try simp only [Act.put, List.getElem_toArray, List.getElem_cons_zero, List.getElem_cons_succ, List.setIfInBounds_toArray, List.set_cons_zero, List.set_cons_succ]
  refine wpAnyH_ready (rs := [51]) (by kernel_rfl) (by simp) ?_
  refine AllReadyH.cons (i := 51) rfl (fun K2 hK2 => ?_) AllReadyH.nil
  go_simp
  go_at_call 13
  refine (HLF.out w103 (HEZ.out.step (show Gr wz w103 from (by repeat (first | exact Gr.refl _ | (refine Gr.step ?_ (by assumption)) | (refine Gr.alloc ?_ _) | (refine Gr.drew ?_)))))).mono ?_
  rintro ev w104 ⟨rfl, b104⟩
  try go_wp2_with fail
  refine hK2.out _ _ (show Gr wz _ from (by repeat (first | exact Gr.refl _ | (refine Gr.step ?_ (by assumption)) | (refine Gr.alloc ?_ _) | (refine Gr.drew ?_)))) (fun hHeld2 => ?_)
  clear hK2 K2
  try simp only [Act.put, List.getElem_toArray, List.getElem_cons_zero, List.getElem_cons_succ, List.setIfInBounds_toArray, List.set_cons_zero, List.set_cons_succ]
  refine wpAnyH_ready (rs := [53]) (by kernel_rfl) (by simp) ?_
  refine AllReadyH.cons (i := 53) rfl (fun K2 hK2 => ?_) AllReadyH.nil
  go_simp
  go_at_call 12
  refine (HIS.out w104 (HEZ.out.step (show Gr wz w104 from (by repeat (first | exact Gr.refl _ | (refine Gr.step ?_ (by assumption)) | (refine Gr.alloc ?_ _) | (refine Gr.drew ?_)))))).mono ?_
  rintro ev w105 ⟨rfl, b105⟩
  try go_wp2_with fail
  refine hK2.out _ _ (show Gr wz _ from (by repeat (first | exact Gr.refl _ | (refine Gr.step ?_ (by assumption)) | (refine Gr.alloc ?_ _) | (refine Gr.drew ?_)))) (fun hHeld2 => ?_)
  clear hK2 K2
  try simp only [Act.put, List.getElem_toArray, List.getElem_cons_zero, List.getElem_cons_succ, List.setIfInBounds_toArray, List.set_cons_zero, List.set_cons_succ]
  refine wpAnyH_ready (rs := [54]) (by kernel_rfl) (by simp) ?_
  refine AllReadyH.cons (i := 54) rfl (fun K2 hK2 => ?_) AllReadyH.nil
  go_simp
  go_at_call 36
  refine (HI10.out w105 (HEZ.out.step (show Gr wz w105 from (by repeat (first | exact Gr.refl _ | (refine Gr.step ?_ (by assumption)) | (refine Gr.alloc ?_ _) | (refine Gr.drew ?_)))))).mono ?_
  rintro ev w106 ⟨rfl, b106⟩
  try go_wp2_with fail
  refine hK2.out _ _ (show Gr wz _ from (by repeat (first | exact Gr.refl _ | (refine Gr.step ?_ (by assumption)) | (refine Gr.alloc ?_ _) | (refine Gr.drew ?_)))) (fun hHeld2 => ?_)
  clear hK2 K2
  try simp only [Act.put, List.getElem_toArray, List.getElem_cons_zero, List.getElem_cons_succ, List.setIfInBounds_toArray, List.set_cons_zero, List.set_cons_succ]
  refine wpAnyH_take (i := 55) (v := ?tv49) rfl (by kernel_rfl) (by kernel_rfl) (by kernel_rfl) (fun _ _ _ h => h) (Or.inl ⟨by rfl, ?ty49⟩) (by assumption) ?tr49
  case ty49 => (intro w hSw; (try dsimp only at hSw); go_simp; (try with_reducible rfl))
  try simp only [Act.put, List.getElem_toArray, List.getElem_cons_zero, List.getElem_cons_succ, List.setIfInBounds_toArray, List.set_cons_zero, List.set_cons_succ]
  refine wpAnyH_take (i := 56) (v := ?tv50) rfl (by kernel_rfl) (by kernel_rfl) (by kernel_rfl) (fun _ _ _ h => h) (Or.inl ⟨by rfl, ?ty50⟩) (by assumption) ?tr50
  case ty50 => (intro w hSw; (try dsimp only at hSw); go_simp; (try with_reducible rfl))
  try simp only [Act.put, List.getElem_toArray, List.getElem_cons_zero, List.getElem_cons_succ, List.setIfInBounds_toArray, List.set_cons_zero]
  refine wpAnyH_done (by kernel_rfl) ?_ _
  go_wp2
  go_ret
  exact ⟨rfl, HBZ.out.trans (Below.mono (show Gr wz w106 from (by repeat (first | exact Gr.refl _ | (refine Gr.step ?_ (by assumption)) | (refine Gr.alloc ?_ _) | (refine Gr.drew ?_)))) HBZ.out.size)⟩
end Go.Proofs.YtaekabhcgdjhfaaDoor

/- Small contracts behind the laws of layer 8. No condition. -/
namespace Go.Proofs.YtaekabhcgdjhfaaDoor
open Go.ChangeShapes Go.WideShapes Go.ChangeAt Go.RowKit
set_option linter.unusedVariables false
theorem beyond2 (x0 x1 : Nat) (w : World) (hx0 : x0 ≤ 9000000000000000000) (hx1 : x1 ≤ 9000000000000000000) :
    Calls Tryd.prog 7 #[.slice (some ⟨w.heap.size, 0, none⟩) 2 2] (w.alloc (.cells #[.int .i64 (x0 : Nat), .int .i64 (x1 : Nat)] 3)) fun ev w' => ev = .returned (.bool (decide (1048576 < x0 + x1))) ∧ w' = (w.alloc (.cells #[.int .i64 (x0 : Nat), .int .i64 (x1 : Nat)] 3)) := by
  have := beyond_any [x0, x1] w.heap.size 2 2 (w.alloc (.cells #[.int .i64 (x0 : Nat), .int .i64 (x1 : Nat)] 3)) rfl (by simp; omega) (fun j x hj => by
    refine cell_new _ _ _ _ ?_
    match j, hj with
    | 0, hj => simp at hj; subst hj; rfl
    | 1, hj => simp at hj; subst hj; rfl
    | j + 2, hj => simp at hj) (by omega)
  have hs : [x0, x1].sum = x0 + x1 := by simp <;> omega
  rw [hs] at this
  exact this.mono (fun _ _ h => ⟨h.1, h.2.symm⟩)
theorem beyond4 (x0 x1 x2 x3 : Nat) (w : World) (hx0 : x0 ≤ 9000000000000000000) (hx1 : x1 ≤ 9000000000000000000) (hx2 : x2 ≤ 9000000000000000000) (hx3 : x3 ≤ 9000000000000000000) :
    Calls Tryd.prog 7 #[.slice (some ⟨w.heap.size, 0, none⟩) 4 4] (w.alloc (.cells #[.int .i64 (x0 : Nat), .int .i64 (x1 : Nat), .int .i64 (x2 : Nat), .int .i64 (x3 : Nat)] 3)) fun ev w' => ev = .returned (.bool (decide (1048576 < x0 + x1 + x2 + x3))) ∧ w' = (w.alloc (.cells #[.int .i64 (x0 : Nat), .int .i64 (x1 : Nat), .int .i64 (x2 : Nat), .int .i64 (x3 : Nat)] 3)) := by
  have := beyond_any [x0, x1, x2, x3] w.heap.size 4 4 (w.alloc (.cells #[.int .i64 (x0 : Nat), .int .i64 (x1 : Nat), .int .i64 (x2 : Nat), .int .i64 (x3 : Nat)] 3)) rfl (by simp; omega) (fun j x hj => by
    refine cell_new _ _ _ _ ?_
    match j, hj with
    | 0, hj => simp at hj; subst hj; rfl
    | 1, hj => simp at hj; subst hj; rfl
    | 2, hj => simp at hj; subst hj; rfl
    | 3, hj => simp at hj; subst hj; rfl
    | j + 4, hj => simp at hj) (by omega)
  have hs : [x0, x1, x2, x3].sum = x0 + x1 + x2 + x3 := by simp <;> omega
  rw [hs] at this
  exact this.mono (fun _ _ h => ⟨h.1, h.2.symm⟩)
/-- a row compared with itself; with the hash of noughts -/
theorem eq_self (p : List UInt8) (hp : p.length = 32) (vp : Array Value) (h : hv p = .agg vp) (w : World) : (Op.equalIn 10000 34 (.agg vp) (.agg vp)).run Tryd.prog w = .ok true w := by
  rw [eq_hash p p hp hp vp vp h h w]; simp
theorem eq_zero (vz : Array Value) (h : hv zeroH = .agg vz) (w : World) : (Op.equalIn 10000 34 (.agg vz) (.agg #[.int .u8 0, .int .u8 0, .int .u8 0, .int .u8 0, .int .u8 0, .int .u8 0, .int .u8 0, .int .u8 0, .int .u8 0, .int .u8 0, .int .u8 0, .int .u8 0, .int .u8 0, .int .u8 0, .int .u8 0, .int .u8 0, .int .u8 0, .int .u8 0, .int .u8 0, .int .u8 0, .int .u8 0, .int .u8 0, .int .u8 0, .int .u8 0, .int .u8 0, .int .u8 0, .int .u8 0, .int .u8 0, .int .u8 0, .int .u8 0, .int .u8 0, .int .u8 0])).run Tryd.prog w = .ok true w := by
  rw [eq_hash zeroH zeroH zeroH_length zeroH_length vz _ h (by rw [zeroH_v]; rfl) w]; simp
end Go.Proofs.YtaekabhcgdjhfaaDoor

/- cartularylaw20.two, right where two texts are told, or none. Condition: the package-level variables read as listed. -/
namespace Go.Proofs.YtaekabhcgdjhfaaDoor
open Go.ChangeShapes Go.WideShapes Go.ChangeAt Go.RowKit
set_option linter.unusedVariables false
theorem wpList_build_str_g {ops : Array Oper} {rest : List Oper} {o : Oper} {a : Act} {w : World} {Q : Exit → Act → World → Prop} (hw : Region.wanted o (yielded ops a.tmps) = true) (x : Operand) (s : ByteArray) (ho : o.op = .buildSlice 22 1 #[(0, x)]) (hx : a.eval x = .string s)
    (h : wpList Tryd.prog ops Q rest (a.put o.dst (.slice (some ⟨w.heap.size, 0, none⟩) 1 1)) (w.alloc (.cells #[.string s] 9))) : wpList Tryd.prog ops Q (o :: rest) a w :=
  wpList_step fun _ hK => by
    rw [if_pos hw]
    exact wp_buildSlice_str x s ho hx (hK _ _ h)
set_option maxRecDepth 100000 in
set_option maxHeartbeats 4000000 in
theorem two_none (w : World) : Calls Tryd.prog 14 #[.string ⟨#[]⟩, .string ⟨#[]⟩, .bool false, .bool false] w fun ev w' => ev = .returned (.bool true) ∧ Below w.heap.size w w' := by
  go_enter Tryd.func14, Tryd.ntmps14
  go_wp2
  go_ret
  exact ⟨rfl, Below.refl _ _⟩
theorem str_ne {s t : ByteArray} (h : s ≠ t) : ¬ s.toList = t.toList := fun e => by rw [Go.ByteArray.toList_eq, Go.ByteArray.toList_eq] at e; exact h (ByteArray.ext (Array.toList_inj.1 e))
set_option maxRecDepth 100000 in
set_option maxHeartbeats 4000000 in
theorem two_diff (a : Nat → Addr) (B : Nat) (s t : ByteArray) (w : World) (hE : Env B a w) (hs : s.size ≤ 100000000000) (ht : t.size ≤ 100000000000) (hne : s ≠ t) (hq : shaB (bOf s) = shaB (bOf t)) :
    Calls Tryd.prog 14 #[.string s, .string t, .bool true, .bool true] w fun ev w' => ev = .returned (.bool true) ∧ Below w.heap.size w w' := by
  obtain ⟨r, hr⟩ : ∃ r, shaB (bOf t) = r := ⟨_, rfl⟩
  have lr : r.length = 32 := by rw [← hr]; exact shaB_length _
  obtain ⟨vr, evr, Hvr, Zvr, Ivr, Ovr⟩ := row_of r lr
  have HE := Lib.hid hE
  have HS : Hid (∀ u : ByteArray, (u = s ∨ u = t) → ∀ w : World, Env B a (w.alloc (.cells #[.string u] 9)) → Calls Tryd.prog 35 #[.slice (some ⟨w.heap.size, 0, none⟩) 1 1] (w.alloc (.cells #[.string u] 9)) fun ev w' => ev = .returned (.agg vr) ∧ Below (w.alloc (.cells #[.string u] 9)).heap.size (w.alloc (.cells #[.string u] 9)) w') := Lib.hid (fun u hu w e => by
    have := sum1_any a B u w (by rcases hu with rfl | rfl <;> assumption) e
    rw [show shaB (bOf u) = r by rcases hu with rfl | rfl <;> simp [hq, hr], evr] at this
    exact this)
  have he : ∀ w, (Op.equalIn 10000 34 (.agg vr) (.agg vr)).run Tryd.prog w = .ok true w := fun w => by rw [eq_hash r r lr lr vr vr evr evr w]; simp
  have hq1 := str_ne hne
  have hq2 : decide (s.toList = t.toList) = false := by simp [hq1]
  have hq3 : (s.toList == t.toList) = false := by simp [hq1]
  have hq4 : decide (s = t) = false := by simp [hne]
  clear hE hs ht hne hq hr evr lr
  go_enter Tryd.func14, Tryd.ntmps14
  go_wp2_with (refine wpList_build_str_g rfl _ s rfl rfl ?_)
  refine (HS.out s (.inl rfl) w (HE.out.step ((Below.refl _ _).alloc (Nat.le_refl _) _))).mono ?_
  rintro ev w1 ⟨rfl, b1⟩
  have B1 : Hid (Below w.heap.size w w1) := Lib.hid (((Below.refl _ w).alloc (Nat.le_refl _) _).trans (b1.mono (by simp)))
  clear b1
  go_wp2_with (refine wpList_build_str_g rfl _ t rfl rfl ?_)
  refine (HS.out t (.inr rfl) w1 (HE.out.step (B1.out.trans (((Below.refl _ w1).alloc (Nat.le_refl _) _).mono B1.out.size)))).mono ?_
  rintro ev w2 ⟨rfl, b2⟩
  have B2 : Hid (Below w.heap.size w w2) := Lib.hid (B1.out.trans ((((Below.refl _ w1).alloc (Nat.le_refl _) _).trans (b2.mono (by simp))).mono B1.out.size))
  clear b2
  go_wp2
  go_ret
  exact ⟨rfl, B2.out⟩
set_option maxRecDepth 100000 in
set_option maxHeartbeats 4000000 in
theorem right_diff (a : Nat → Addr) (B : Nat) (s t : ByteArray) (r : List UInt8) (w : World) (hE : Env B a w) (lr : r.length = 32) (hs : s.size ≤ 100000000000) (ht : t.size ≤ 100000000000) (hne : s ≠ t) (hq : shaB (bOf s) = shaB (bOf t)) :
    Calls Tryd.prog 17 #[.string s, .string t, .bool true, .bool false, hv r] w fun ev w' => ev = .returned (.bool true) ∧ Below w.heap.size w w' := by
  obtain ⟨vr, evr, Hvr, Zvr, Ivr, Ovr⟩ := row_of r lr
  rw [evr]
  have HB0 : Hid (Below w.heap.size w (w.alloc (.cells vr 34))) := Lib.hid ((Below.refl _ _).alloc (Nat.le_refl _) _)
  obtain ⟨wb, hwb⟩ : ∃ x, w.alloc (.cells vr 34) = x := ⟨_, rfl⟩
  rw [hwb] at HB0
  have HWB := Lib.hid hwb
  have HTD := Lib.hid (two_diff a B s t wb (hE.step HB0.out) hs ht hne hq)
  clear hE lr hs ht hne hq evr hwb
  go_enter Tryd.func17, Tryd.ntmps17
  go_upto_region 1 with fail
  rw [HWB.out]
  go_wp2_with fail
  refine HTD.out.mono ?_
  rintro ev w1 ⟨rfl, b1⟩
  go_wp2
  go_ret
  exact ⟨rfl, HB0.out.trans (b1.mono HB0.out.size)⟩
end Go.Proofs.YtaekabhcgdjhfaaDoor

