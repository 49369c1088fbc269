import Derived.Deep.RegionHeld3
import Derived.Deep.DrawnRows
import Derived.BigRegion
import Derived.RegionTactic
import Derived.Laws.AppendOwnNone
import Derived.Outline
import Derived.Test.YtnpblpbcchminaaGreatDoorKbShaWrite
/- cartularyref04.schedule: the words of a block. No condition. -/
namespace Go.Proofs.YtnpblpbcchminaaGreatDoor
open Go.ChangeShapes Go.WideShapes Go.ChangeAt Go.RowKit
set_option linter.unusedVariables false
end Go.Proofs.YtnpblpbcchminaaGreatDoor
/- sha.New and sha.Digest.Copy. No condition. -/
namespace Go.Proofs.YtnpblpbcchminaaGreatDoor
open Go.ChangeShapes Go.WideShapes Go.ChangeAt Go.RowKit
set_option linter.unusedVariables false
set_option maxRecDepth 100000 in
theorem new_any (w : World) : Calls Tryz.prog 185 #[] w fun ev w' => ∃ D hb, ev = .returned (.pointer (some ⟨D, 0, none⟩)) ∧ DigAt w.heap.size D hb w' [] 0 [] [] (.slice none 0 0) ∧ Below w.heap.size w w' := by
  go_enter Tryz.func185, Tryz.ntmps185
  go_wp2
  go_ret
  refine ⟨_, w.heap.size, rfl, ⟨rfl, rfl, by simp, ⟨?_, ?_, by simp⟩, World.ownsRow_nil _ _ _ _, ⟨by simp [Value.ownBlock], by simp [Value.ownBlock]⟩, by simp, by simp⟩, ((Below.refl _ w).alloc (Nat.le_refl _) _).alloc (by simp) _⟩
  · have h := heap_alloc_new (w.alloc (.cells ((shaH0.map (Value.int .u32)).toArray) 272)) (.cells #[.pointer (some ⟨w.heap.size, 0, none⟩), .slice none 0 0, .int .u64 0] 298)
    rw [World.size_alloc] at h
    exact h
  · exact (irow_new _ _ shaH0 _ rfl).alloc _
theorem step_append_none {P : Program} {w : World} {ops : Array Oper} {o : Oper} {a : Act} {K : Act → World → Prop} {Q : Exit → Act → World → Prop} {E : Prop}
    (hg : o.guard = none) (s x : Operand) (t : TypeId) (ho : o.op = Op.call { callee := Callee.builtin Builtin.append, args := #[s, x], argTypes := #[t, t] })
    (base : Nat) (e : TypeId) (i : TypeInfo) (size : Nat) (ht : P.underlying t = some (.slice e)) (hi : P.info? e = some i)
    (v : Value) (n : Nat) (xs : List Value) (hs : a.eval s = v) (hown : w.ownsRow base e size v n xs) (hx : a.eval x = .slice none 0 0)
    (hK : K (a.put o.dst v) w) : if Region.wanted o (yielded ops a.tmps) = true then Oper.wp P o a w K Q else E := by
  rw [if_pos (by simp [Region.wanted, hg])]
  have hrun := run_append_owned_none (P := P) (w := w) base t o.type e i size ht hi v n xs hown
  unfold Oper.wp
  simp [execOp, ho, resolve, invoke, builtin, hs, hx, hrun, Result.andThen]
  exact hK
theorem info_u8' : (Tryz.prog.info? 5).map (fun i => (i.zero, i.size, i.bytes)) = some (some (.int .u8 0), 1, 1) := by kernel_rfl
set_option maxRecDepth 100000 in
set_option maxHeartbeats 1000000 in
theorem copy_any (base D hb q : Nat) (xs done rest : List UInt8) (rv : Value) (w : World) (hD : DigAt base D hb w xs q done rest rv) :
    Calls Tryz.prog 209 #[.pointer (some ⟨D, 0, none⟩)] w fun ev w' => ∃ D' hb' rv', ev = .returned (.pointer (some ⟨D', 0, none⟩)) ∧ DigAt w.heap.size D' hb' w' xs q done rest rv' ∧ Below w.heap.size w w' := by
  have d0 := hD.dg.c0
  have d1 := hD.dg.c1
  have d2 := hD.dg.c2
  have hDlt := hD.dg.lt.1
  have hHlt := hD.dg.lt.2
  have HDD := Lib.hid hD
  obtain ⟨nx, hnx⟩ : ∃ nx : Int, (xs.length : Int) = nx := ⟨_, rfl⟩
  rw [hnx] at d2
  have HNX := Lib.hid hnx
  obtain ⟨hv, hhv⟩ : ∃ hv, ((blks q shaH0 done).map (Value.int .u32)).toArray = hv := ⟨_, rfl⟩
  have HQ : Hid (w.heap[hb]? = some (.cells hv 272 (0, 0))) := Lib.hid (by rw [← hhv]; exact hD.dg.words)
  have HS : Hid (hv.size = 8) := Lib.hid (by rw [← hhv]; simp [blks_length _ _ _ (show shaH0.length = 8 from rfl)])
  have HO : Hid (hv.all (·.oneCell') = true) := Lib.hid (by rw [← hhv]; exact all_oneCell_toArray (by intro u hu; simp only [List.mem_map] at hu; obtain ⟨x, _, rfl⟩ := hu; rfl))
  have HI : Hid ((Tryz.prog.info? 272).map (·.size) = some hv.size) := Lib.hid (by rw [HS.out]; kernel_rfl)
  have HHV := Lib.hid hhv
  obtain ⟨i0, hi, hz0, hz1, hz2⟩ := info_parts info_u8'
  clear hD hnx hhv
  go_enter Tryz.func209, Tryz.ntmps209
  go_wp2_with (first | (refine wpList_load_row rfl 272 _ rfl hb rfl 272 hv (0, 0) _ HQ.out Tryz.underlying272 rfl HI.out ?_) | (refine wpList_store_row rfl 272 _ _ rfl w.heap.size hv rfl rfl 272 _ (heap_alloc_new _ _) HI.out (by rw [HS.out]; rfl) HO.out ?_))
  obtain ⟨wA, hwA⟩ : ∃ wA, (w.alloc (.cells (List.replicate 8 (Value.int .u32 0)).toArray 272)).setRow w.heap.size hv = wA := ⟨_, rfl⟩
  have HIR : Hid (IRow wA w.heap.size .u32 272 (blks q shaH0 done)) := Lib.hid (by rw [← hwA]; unfold IRow; rw [HHV.out]; exact setRow_heap _ _ _ _ _ _ (heap_alloc_new _ _))
  have HBl : Hid (Below w.heap.size w wA) := Lib.hid (by rw [← hwA]; exact below_setRow ((Below.refl _ w).alloc (Nat.le_refl _) _) _ _ (Nat.le_refl _))
  have hsA : wA.heap.size = w.heap.size + 1 := by rw [← hwA]; simp
  simp only [List.replicate, List.toArray] at hwA
  show Code.wp _ _ _ _ _
  rw [hwA]
  have a1 := cell_below HBl.out d1 hDlt
  have a2 := cell_below HBl.out d2 hDlt
  have HSA := Lib.hid hsA
  clear hwA d0 d1 d2 hsA
  have HOw := Lib.hid (own_below HDD.out.own HBl.out (Nat.le_refl _))
  rcases HDD.out.own.2 with ⟨rfl, hn0⟩ | ⟨g, rcap, cur, rfl, hg⟩
  · obtain rfl := List.eq_nil_of_length_eq_zero hn0
    go_region_held3 (fun w' => w'.cell? ⟨D, 1, none⟩ = some (.slice none 0 0) ∧ w'.cell? ⟨D, 2, none⟩ = some (.int .u64 nx)) (go_keep)
      (refine step_append_none (by rfl) (.const (.slice none 0 0)) (.tmp 22) 138 (by rfl) 0 5 i0 1 Tryz.underlying138 hi (.slice none 0 0) 0 [] (by rfl) (World.ownsRow_nil _ _ _ _) (by rfl) ?_)
    go_wp2
    go_ret
    have hs := HSA.out
    have hB := ((HBl.out).alloc (by omega) (.cells #[.pointer (some ⟨w.heap.size, 0, none⟩), .slice none 0 0, .int .u64 nx] 298)).drew
    have hI := HIR.out.alloc (.cells #[.pointer (some ⟨w.heap.size, 0, none⟩), .slice none 0 0, .int .u64 nx] 298)
    refine ⟨wA.heap.size, w.heap.size, .slice none 0 0, rfl, ⟨HDD.out.all, HDD.out.len, by simp, ⟨?_, hI, by omega⟩, World.ownsRow_nil _ _ _ _, ⟨by simp [Value.ownBlock], by simp [Value.ownBlock]⟩, by omega, Nat.le_refl _⟩, hB⟩
    rw [HNX.out]
    exact heap_alloc_new wA _
  · clear hg
    go_region_held3 (fun w' => w'.cell? ⟨D, 1, none⟩ = some (.slice (some ⟨g, 0, none⟩) rest.length rcap) ∧ w'.cell? ⟨D, 2, none⟩ = some (.int .u64 nx)) (first | exact KK | go_keep)
      ((refine step_append_shape (by rfl) (.const (.slice none 0 0)) (.tmp 22) 138 (by rfl) w.heap.size 5 i0 (.int .u8 0) 1 1 Tryz.underlying138 hi hz0 hz1 hz2 rfl (by decide) (.slice none 0 0) 0 [] (by rfl) (World.ownsRow_nil _ _ _ _) ⟨g, 0, none⟩ rest.length rcap (bytesV rest) (by rfl) (by rw [bytesV_length]; omega) (fun j u hu => (own_drew HOw.out).cells (g := g) rfl j u hu) (bytesV_one _) (by have := HDD.out.short; unfold maxLen; omega) (by have := HDD.out.short; omega) (by have := HSA.out; simp; omega) ?_; intro A2 cap2 w3 hown3 hgrow3 hat3; have KK := And.intro (cell_grown hgrow3 a1 (by simp [Value.ownBlock])) (cell_grown hgrow3 a2 (by simp [Value.ownBlock]))))
    go_wp2
    go_ret
    have hs := HSA.out
    have h3s := hgrow3.size
    simp at h3s
    have hB3 : Below w.heap.size w w3 := (HBl.out.drew).grown hgrow3 (by simp; omega) (fun k hk => by simp [Value.ownBlock] at hk)
    have hB := hB3.alloc (by omega) (.cells #[.pointer (some ⟨w.heap.size, 0, none⟩), .slice A2 rest.length cap2, .int .u64 nx] 298)
    have hI3 : IRow w3 w.heap.size .u32 272 (blks q shaH0 done) := HIR.out.block (hgrow3.block _ (by simp; omega) (by simp [Value.ownBlock]))
    have hI := hI3.alloc (.cells #[.pointer (some ⟨w.heap.size, 0, none⟩), .slice A2 rest.length cap2, .int .u64 nx] 298)
    rw [Nat.zero_add, List.nil_append] at hown3
    have hlt := hown3.lt
    rw [Nat.zero_add] at hat3
    have hat : (Value.slice A2 rest.length cap2).ownBlock = none ∨ (Value.slice A2 rest.length cap2).ownBlock = some wA.heap.size := by simpa [Value.ownBlock] using hat3
    refine ⟨w3.heap.size, w.heap.size, .slice A2 rest.length cap2, rfl, ⟨HDD.out.all, HDD.out.len, HDD.out.short, ⟨?_, hI, by omega⟩, own_below hown3 ((Below.refl _ _).alloc (Nat.le_refl _) _) (Nat.le_refl _), ⟨fun q => ?_, fun q => ?_⟩, by omega, Nat.le_refl _⟩, hB⟩
    · rw [HNX.out]
      exact heap_alloc_new w3 _
    · have := (hlt _ q).2; omega
    · rcases hat with h | h
      · rw [h] at q; cases q
      · rw [h] at q; injection q with q; omega
end Go.Proofs.YtnpblpbcchminaaGreatDoor
/- sha.Digest.Sum: SHA-256 of all bytes so far. Condition: the table reads as listed. -/
namespace Go.Proofs.YtnpblpbcchminaaGreatDoor
open Go.ChangeShapes Go.WideShapes Go.ChangeAt Go.RowKit
set_option linter.unusedVariables false
theorem lenB_int (n e : Nat) : Value.int .u8 ((n : Int) * 8 / 2 ^ e % 256) = byteV (UInt8.ofNat ((n * 8) / 2 ^ e % 256)) := by
  unfold byteV
  have h : (UInt8.ofNat (n * 8 / 2 ^ e % 256)).toNat = n * 8 / 2 ^ e % 256 := by rw [UInt8.toNat_ofNat']; omega
  rw [h]
  congr 1
/-- the number of bits as the program keeps it: its bytes are the same -/
theorem len8_int (n t : Nat) (h : t < 8) : Value.int .u8 (IntKind.u64.wrap ((n : Int) * 8) / 2 ^ (56 - 8 * t) % 256) = byteV (UInt8.ofNat ((n * 8) / 2 ^ (56 - 8 * t) % 256)) := by
  rw [← lenB_int]
  congr 1
  rw [IntKind.wrap_u64]
  obtain rfl | rfl | rfl | rfl | rfl | rfl | rfl | rfl : t = 0 ∨ t = 1 ∨ t = 2 ∨ t = 3 ∨ t = 4 ∨ t = 5 ∨ t = 6 ∨ t = 7 := by omega
  all_goals (simp only [Nat.mul_zero, Nat.sub_zero, Nat.reduceMul, Nat.reduceSub, Int.reducePow]; omega)
theorem lenB_take (n t : Nat) (h : t < 8) : (lenB n).take (t + 1) = (lenB n).take t ++ [UInt8.ofNat ((n * 8) / 2 ^ (56 - 8 * t) % 256)] := by
  rw [List.take_add_one]; congr 1
  unfold lenB; rw [List.getElem?_map, List.getElem?_range h]; rfl
def ints4 (x : Int) : List Int := [x / 16777216 % 256, x / 65536 % 256, x / 256 % 256, x % 256]
def orow (H : List Int) (t : Nat) : List Int := (H.take t).flatMap ints4 ++ List.replicate (32 - 4 * t) 0
theorem ints4_len : ∀ (l : List Int), (l.flatMap ints4).length = 4 * l.length
  | [] => rfl
  | x :: l => by rw [List.flatMap_cons, List.length_append, ints4_len l]; simp [ints4]; omega
theorem orow_at (H : List Int) (t i : Nat) (h8 : H.length = 8) (ht : t < 8) (hi : 4 * t ≤ i) (hi2 : i < 32) : (orow H t)[i]? = some 0 := by
  unfold orow
  rw [List.getElem?_append_right (by rw [ints4_len, List.length_take]; omega), List.getElem?_replicate, if_pos (by rw [ints4_len, List.length_take]; omega)]
theorem orow_set (H : List Int) (t : Nat) (x : Int) (h8 : H.length = 8) (ht : t < 8) (hx : H[t]? = some x) :
    ((((orow H t).set (4 * t) (x / 16777216 % 256)).set (4 * t + 1) (x / 65536 % 256)).set (4 * t + 2) (x / 256 % 256)).set (4 * t + 3) (x % 256) = orow H (t + 1) := by
  have hl : ((H.take t).flatMap ints4).length = 4 * t := by rw [ints4_len, List.length_take]; omega
  have e : 32 - 4 * t = (32 - 4 * (t + 1)) + 1 + 1 + 1 + 1 := by omega
  have ht1 : H.take (t + 1) = H.take t ++ [x] := by rw [List.take_add_one, hx]; rfl
  unfold orow
  rw [ht1, List.flatMap_append, e]
  generalize hA : (H.take t).flatMap ints4 = A at hl
  simp only [List.replicate_succ]
  rw [List.set_append_right _ _ (by omega), List.set_append_right _ _ (by omega), List.set_append_right _ _ (by omega), List.set_append_right _ _ (by omega), hl,
    show 4 * t - 4 * t = 0 by omega, show 4 * t + 1 - 4 * t = 1 by omega, show 4 * t + 2 - 4 * t = 2 by omega, show 4 * t + 3 - 4 * t = 3 by omega]
  simp [ints4]
theorem orow_all (H : List Int) (h8 : H.length = 8) : (orow H 8).map (Value.int .u8) = bytesV (H.flatMap wordBytes) := by
  unfold orow
  rw [List.take_of_length_le (by omega)]
  simp only [Nat.reduceMul, Nat.sub_self, List.replicate_zero, List.append_nil]
  have h : ∀ l : List Int, (l.flatMap ints4).map (Value.int .u8) = bytesV (l.flatMap wordBytes) := by
    intro l
    induction l with
    | nil => rfl
    | cons x l ih =>
      rw [List.flatMap_cons, List.flatMap_cons, List.map_append, ih, bytesV_append]
      congr 1
      simp only [ints4, wordBytes, bytesV, List.map_cons, List.map_nil, byteV_ofInt]
  exact h H
set_option maxRecDepth 100000 in
set_option maxHeartbeats 4000000 in
theorem digsum_any (base D hb q : Nat) (xs done rest : List UInt8) (rv : Value) (w : World) (hD : DigAt base D hb w xs q done rest rv) (hbase : base ≤ w.heap.size) (htot : xs.length ≤ 9223372036854776000) (hK : KTab 17 w) (hKb : 17 < base) :
    Calls Tryz.prog 187 #[.pointer (some ⟨D, 0, none⟩)] w fun ev w' => ev = .returned (hv (shaB xs)) ∧ Below w.heap.size w w' := by
  have d0 := cell_alloc hD.dg.c0 (.cells (List.replicate 32 (Value.int .u8 0)).toArray 23)
  have hDlt := hD.dg.lt.1
  have hHlt := hD.dg.lt.2
  have HDD := Lib.hid hD
  have HK := Lib.hid hK
  obtain ⟨i0, hi, hz0, hz1, hz2⟩ := info_parts info_u8
  have hDa : Hid (DigAt base D hb (w.alloc (.cells (List.replicate 32 (Value.int .u8 0)).toArray 23)) xs q done rest rv) := Lib.hid ⟨hD.all, hD.len, hD.short, hD.dg.below ((Below.refl _ _).alloc (Nat.le_refl _) _) hDlt hHlt, hD.own.alloc _, hD.far, hD.baseD, hD.baseH⟩
  have hBa : Hid (Below w.heap.size w (w.alloc (.cells (List.replicate 32 (Value.int .u8 0)).toArray 23))) := Lib.hid ((Below.refl _ _).alloc (Nat.le_refl _) _)
  have hRa : Hid (IRow (w.alloc (.cells (List.replicate 32 (Value.int .u8 0)).toArray 23)) w.heap.size .u8 23 (List.replicate 32 0)) := Lib.hid (irow_new _ _ _ _ (by simp))
  obtain ⟨wa, hwa⟩ : ∃ wa, w.alloc (.cells (List.replicate 32 (Value.int .u8 0)).toArray 23) = wa := ⟨_, rfl⟩
  have hsa : w.heap.size + 1 = wa.heap.size := by rw [← hwa]; simp
  rw [hwa] at d0 hDa hBa hRa
  simp only [List.replicate, List.toArray] at hwa
  have HSA := Lib.hid hsa
  clear hD hK hsa
  go_enter Tryz.func187, Tryz.ntmps187
  go_wp2_with fail
  refine (copy_any base D hb q xs done rest rv _ hDa.out).mono ?_
  rintro ev w1 ⟨D', hb', rv', rfl, hD1, hB1⟩
  have hs1 := hB1.size
  have c1 := cell_below hB1 hDa.out.dg.c1 hDa.out.dg.lt.1
  have c2 := cell_below hB1 hDa.out.dg.c2 hDa.out.dg.lt.1
  have HDc := Lib.hid hD1
  have HB1 := Lib.hid (hBa.out.trans (hB1.mono (by have := HSA.out; omega)))
  have HR1 := Lib.hid (hRa.out.below hB1 (by have := HSA.out; omega))
  obtain ⟨rA, rcap, hrv, hrc⟩ := own_shape HDD.out.own
  obtain ⟨r, hr⟩ : ∃ r, rest.length = r := ⟨_, rfl⟩
  obtain ⟨n, hn⟩ : ∃ n, xs.length = n := ⟨_, rfl⟩
  have hnr : Hid (n = 64 * q + r) := Lib.hid (by rw [← hn, ← hr, HDD.out.all, List.length_append, HDD.out.len])
  have hr64 : r < 64 := by have := HDD.out.short; omega
  rw [hr] at hrv
  rw [hn] at c2 htot
  have HN := Lib.hid hn
  have HRr := Lib.hid hr
  have hsw : w.heap.size < w1.heap.size := by have := HSA.out; omega
  have hD1 : D < w1.heap.size := by omega
  obtain ⟨z, hz⟩ : ∃ z, (119 - n % 64) % 64 = z := ⟨_, rfl⟩
  have hz64 : z < 64 := by omega
  have HZ := Lib.hid hz
  subst hrv
  obtain ⟨N8, hN8⟩ : ∃ y, IntKind.u64.wrap ((n : Int) * 8) = y := ⟨_, rfl⟩
  have HN8 := Lib.hid hN8
  have hN80 : 0 ≤ N8 ∧ N8 < 18446744073709551616 := by rw [← hN8, IntKind.wrap_u64]; omega
  clear hwa d0 hB1 hn hr hz hrc hDlt hHlt hs1
  go_wp2
  clear hN8
  go_loopw [5] (fun v wr => ∃ (j cap1 : Nat) (A : Option Addr), j ≤ z ∧ v = .slice A (1 + j) cap1 ∧ Hid (wr.ownsRow w1.heap.size 5 1 (.slice A (1 + j) cap1) (1 + j) (bytesV ([128] ++ List.replicate j 0))) ∧ Hid (Below w1.heap.size w1 wr)) (fun v _ => match v with | .slice _ m _ => 100 - m | _ => 0)
  case atStart => exact ⟨0, 1, _, by omega, rfl, Lib.hid (own_new #[.int .u8 128] 5 1 1 (Nat.le_refl _) rfl (by unfold maxLen; omega)), Lib.hid ((Below.refl _ _).alloc (Nat.le_refl _) _)⟩
  case round =>
    obtain ⟨j, cap1, A, hj, rfl, HO, HB⟩ := hrel
    have c1' := cell_below HB.out c1 hD1
    have hwr := HB.out.size
    by_cases hlt : j < z
    · have ht : (((r : Int) + (1 + (j : Int))) % 64 != 56) = true := by have := hnr.out; have := HZ.out; simp; omega
      go_wp2_with (at_builtin; refine wpList_append_shape rfl (.tmp 38) (.tmp 39) 138 rfl w1.heap.size 5 i0 (.int .u8 0) 1 1 Tryz.underlying138 hi hz0 hz1 hz2 rfl (by decide) (.slice A (1 + j) cap1) (1 + j) _ rfl (HO.out.alloc _) ⟨wr.heap.size, 0, none⟩ 1 1 [.int .u8 0] rfl rfl (news_new _ _) (by simp [Value.oneCell']) (by unfold maxLen; omega) (by omega) (by simp; omega) ?_; intro A9 cap9 w3 hown3 hgrow3 hat3)
      have hO3 := Lib.hid (own_congr hown3 (show 1 + j + 1 = 1 + (j + 1) by omega) (show _ = bytesV ([128] ++ List.replicate (j + 1) 0) by rw [List.replicate_succ', ← List.append_assoc, bytesV_append (_ ++ _)]; rfl))
      have hB3 := Lib.hid ((HB.out.alloc hwr _).grown hgrow3 (by simp; omega) (fun k hk => (HO.out.lt k hk).1))
      clear ht
      go_roundw
      case rel => exact ⟨j + 1, cap9, A9, by omega, rfl, hO3, hB3⟩
      case measure => simp; omega
    · obtain rfl : j = z := by omega
      have ht : (((r : Int) + (1 + (j : Int))) % 64 != 56) = false := by have := hnr.out; have := HZ.out; simp; omega
      have HO1 := Lib.hid (own_congr HO.out (show 1 + j = 1 + j + 0 by omega) (show _ = bytesV ([128] ++ List.replicate j 0 ++ (lenB n).take 0) by simp))
      have HBB := Lib.hid HB.out
      obtain ⟨wb, rfl⟩ : ∃ wb : World, wb = wr := ⟨_, rfl⟩
      go_wp2
      clear ht
      go_loopw [5, 6] (fun v i wr => ∃ (t cap1 : Nat) (A : Option Addr), t ≤ 8 ∧ v = .slice A (1 + j + t) cap1 ∧ i = .int .i64 (56 - 8 * (t : Int)) ∧ Hid (wr.ownsRow w1.heap.size 5 1 (.slice A (1 + j + t) cap1) (1 + j + t) (bytesV ([128] ++ List.replicate j 0 ++ (lenB n).take t))) ∧ Hid (Below w1.heap.size w1 wr)) (fun v _ _ => match v with | .slice _ m _ => 100 - m | _ => 0)
      case atStart => exact ⟨0, cap1, A, by omega, rfl, rfl, HO1, HBB⟩
      case round =>
        obtain ⟨t, cap1, A, ht8, rfl, rfl, HO, HB⟩ := hrel
        have hwr := HB.out.size
        by_cases hlt : t < 8
        · obtain ⟨e, he⟩ : ∃ e : Nat, 56 - 8 * t = e := ⟨_, rfl⟩
          rw [show (56 - 8 * (t : Int)) = (e : Int) by omega]
          have HLb : Hid (.int .u8 (N8 / 2 ^ e % 256) = byteV (UInt8.ofNat ((n * 8) / 2 ^ (56 - 8 * t) % 256))) := Lib.hid (by rw [← he, ← HN8.out]; exact len8_int n t hlt)
          have HLc : Hid ((lenB n).take (t + 1) = (lenB n).take t ++ [UInt8.ofNat ((n * 8) / 2 ^ (56 - 8 * t) % 256)]) := Lib.hid (lenB_take n t hlt)
          have HEE : Hid ((e : Int) - 8 = 56 - 8 * ((t + 1 : Nat) : Int)) := Lib.hid (by omega)
          have he0 : (0 : Int) ≤ e := by omega
          have he63 : e ≤ 56 := by omega
          clear he
          go_wp2_with (at_builtin; refine wpList_append_shape rfl (.tmp 45) (.tmp 50) 138 rfl w1.heap.size 5 i0 (.int .u8 0) 1 1 Tryz.underlying138 hi hz0 hz1 hz2 rfl (by decide) (.slice A (1 + j + t) cap1) (1 + j + t) _ rfl (HO.out.alloc _) ⟨wr.heap.size, 0, none⟩ 1 1 [_] rfl rfl (news_new _ _) (by simp [Value.oneCell']) (by unfold maxLen; omega) (by omega) (by simp; omega) ?_; intro A9 cap9 w3 hown3 hgrow3 hat3)
          have hO3 := Lib.hid (own_congr hown3 (show 1 + j + t + 1 = 1 + j + (t + 1) by omega) (show _ = bytesV ([128] ++ List.replicate j 0 ++ (lenB n).take (t + 1)) by rw [HLb.out, HLc.out]; simp [bytesV]))
          have hB3 := Lib.hid ((HB.out.alloc hwr _).grown hgrow3 (by simp; omega) (fun k hk => (HO.out.lt k hk).1))
          clear hown3 hgrow3 hat3
          refine ⟨⟨t + 1, cap9, A9, by omega, rfl, by rw [HEE.out], hO3, hB3⟩, ?_⟩
          simp; omega
        · obtain rfl : t = 8 := by omega
          rw [show (56 - 8 * ((8 : Nat) : Int)) = -8 by omega]
          have HTl : Hid ([128] ++ List.replicate j 0 ++ (lenB n).take 8 = tailB n) := Lib.hid (by unfold tailB; rw [HZ.out, List.take_of_length_le (by simp [lenB])])
          obtain ⟨g5, cap5, hA5, hg5, hg5l⟩ := HO.out.form (by omega)
          cases hA5
          have hT : (tailB n).length = 1 + j + 8 := by rw [← HTl.out]; simp [lenB]; omega
          have hDr : DigAt wa.heap.size D' hb' wr xs q done rest rv' := ⟨HDc.out.all, HDc.out.len, HDc.out.short, HDc.out.dg.below HB.out HDc.out.dg.lt.1 HDc.out.dg.lt.2, own_below HDc.out.own HB.out (Nat.le_refl _), HDc.out.far, HDc.out.baseD, HDc.out.baseH⟩
          have hKr : KTab 17 wr := fun i hi => cell_below (HB1.out.trans (HB.out.mono (by omega))) (HK.out i hi) (by omega)
          have hR5 : wr.rangeAt g5 0 (bytesV (tailB n)) := fun i v hv => by rw [Nat.zero_add]; rw [← HTl.out] at hv; have h := HO.out.cells (g := g5) rfl i v hv; rwa [addr_add] at h
          have hlt1 := HDc.out.dg.lt
          have WA0 := write_any wa.heap.size D' hb' g5 0 cap1 q xs (tailB n) done rest rv' wr hDr hR5 (by rw [hT]; obtain ⟨A, c, h, h2⟩ := own_shape HO.out; cases h; exact h2) (by rcases HO.out.2 with ⟨h, _⟩ | ⟨_, _, _, h, _, _, _, h2, _⟩; (cases h); (cases h; unfold maxLen at h2; exact h2)) (by omega) (by omega) (fun q => by have := (HDc.out.own.lt _ q).2; omega) (by have := HSA.out; omega) (by rw [hT, HN.out]; omega) hKr (by have := HSA.out; omega)
          rw [hT] at WA0
          have WA := Lib.hid WA0
          have HTT := Lib.hid hT
          clear hDr hKr hR5 WA0 hT
          go_wp2_with fail
          refine WA.out.mono ?_
          rintro ev w2 ⟨rfl, ⟨q2, done2, rest2, rv2, hD2⟩, hB2⟩
          have hr2 : rest2 = [] := by
            have h1 := congrArg List.length hD2.all
            rw [List.length_append, List.length_append, HN.out, hD2.len] at h1
            have h2 := tailB_length n
            have h3 := hD2.short
            exact List.eq_nil_of_length_eq_zero (by omega)
          subst hr2
          have hd2 : done2 = xs ++ tailB n := by have h := hD2.all; rw [List.append_nil] at h; exact h.symm
          have HSh : Hid (shaB xs = (blks q2 shaH0 done2).flatMap wordBytes) := Lib.hid (by
            have h1 := congrArg List.length hd2
            rw [hD2.len, List.length_append, HN.out] at h1
            unfold shaB
            rw [HN.out, hd2, show (n + (tailB n).length) / 64 = q2 by omega])
          have HW2 := Lib.hid hD2.dg.words
          have HL2 : Hid ((blks q2 shaH0 done2).length = 8) := Lib.hid (blks_length _ _ _ rfl)
          have HB2 := Lib.hid (HB1.out.trans ((HB.out.mono (B' := w.heap.size) (by omega)).trans (hB2.mono (by have := HSA.out; omega))))
          have HR2 := Lib.hid ((HR1.out.below HB.out (by omega)).below hB2 (by have := HSA.out; omega))
          have hs2 := hB2.size
          have hne2 := hD2.dg.lt.2
          have d0 := hD2.dg.c0
          have hDl2 := hD2.dg.lt.1
          obtain ⟨HL, hHL⟩ : ∃ HL, blks q2 shaH0 done2 = HL := ⟨_, rfl⟩
          rw [hHL] at HSh HW2 HL2
          clear hB2 hD2 hd2 hHL WA
          go_wp2
          have HI0 : Hid (IRow (w2.alloc (.cells (List.replicate 32 (Value.int .u8 0)).toArray 23)) w2.heap.size .u8 23 (orow HL 0)) := Lib.hid (irow_new _ _ _ _ (by simp [orow]))
          have HC0 : Hid (Below w2.heap.size w2 (w2.alloc (.cells (List.replicate 32 (Value.int .u8 0)).toArray 23))) := Lib.hid ((Below.refl _ _).alloc (Nat.le_refl _) _)
          simp only [List.replicate, List.toArray] at HI0 HC0
          clear d0
          go_loopw [59] (fun c wr => ∃ t : Nat, t ≤ 8 ∧ c = .int .i64 t ∧ Hid (IRow wr w2.heap.size .u8 23 (orow HL t)) ∧ Hid (Below w2.heap.size w2 wr)) (fun c _ => 8 - (intOf c).toNat)
          case atStart => exact ⟨0, by omega, rfl, HI0, HC0⟩
          case round =>
            obtain ⟨t, ht, rfl, HI, HC⟩ := hrel
            by_cases hlt : t < 8
            · obtain ⟨x, hx⟩ : ∃ x, HL[t]? = some x := ⟨_, List.getElem?_eq_getElem (by rw [HL2.out]; exact hlt)⟩
              have c0 := (HW2.out.below HC.out hne2).cell hx
              have HX := Lib.hid hx
              clear hx
              have o0 := HI.out.cell (orow_at HL t (4 * t) HL2.out hlt (by omega) (by omega))
              have o1 := HI.out.cell (orow_at HL t (4 * t + 1) HL2.out hlt (by omega) (by omega))
              have o2 := HI.out.cell (orow_at HL t (4 * t + 2) HL2.out hlt (by omega) (by omega))
              have o3 := HI.out.cell (orow_at HL t (4 * t + 3) HL2.out hlt (by omega) (by omega))
              have f0 := HI.out.frozen (4 * t)
              have f1 := HI.out.frozen (4 * t + 1)
              have f2 := HI.out.frozen (4 * t + 2)
              have f3 := HI.out.frozen (4 * t + 3)
              have i1 : (t : Int) < 8 := by omega
              have i0 : (0 : Int) ≤ t := by omega
              go_wp2
              go_quiet (fail)
              go_wp2
              refine ⟨⟨t + 1, by omega, by go_num, Lib.hid ((((((HI.out.drewN nq).set (4 * t) _).set (4 * t + 1) _).set (4 * t + 2) _).set (4 * t + 3) _).congr (orow_set HL t x HL2.out hlt HX.out)), Lib.hid (((((below_drewN (n := nq) HC.out).setCell (p := ⟨w2.heap.size, 4 * t, none⟩) (Nat.le_refl _) _).setCell (p := ⟨w2.heap.size, 4 * t + 1, none⟩) (Nat.le_refl _) _).setCell (p := ⟨w2.heap.size, 4 * t + 2, none⟩) (Nat.le_refl _) _).setCell (p := ⟨w2.heap.size, 4 * t + 3, none⟩) (Nat.le_refl _) _)⟩, ?_⟩
              simp [intOf]; omega
            · obtain rfl : t = 8 := by omega
              obtain ⟨rv, hrv⟩ : ∃ rv, (bytesV (shaB xs)).toArray = rv := ⟨_, rfl⟩
              have HF : Hid (wr.heap[w2.heap.size]? = some (.cells rv 23 (0, 0))) := Lib.hid (by have h := HI.out; unfold IRow at h; rw [h, orow_all HL HL2.out, ← hrv, HSh.out])
              have HG : Hid (wr.heap[w.heap.size]? = some (.cells ((List.replicate 32 (0 : Int)).map (Value.int .u8)).toArray 23 (0, 0))) := Lib.hid (HR2.out.below HC.out (by have := HSA.out; omega))
              have HS9 : Hid (rv.size = 32) := Lib.hid (by rw [← hrv]; simp [bytesV_length, shaB_length])
              have HI9 : Hid ((Tryz.prog.info? 23).map (·.size) = some rv.size) := Lib.hid (by rw [HS9.out]; kernel_rfl)
              have HO9 : Hid (rv.all (·.oneCell') = true) := Lib.hid (by rw [← hrv]; exact bytesV_all _)
              have HFin : Hid (Below w.heap.size w (wr.setRow w.heap.size rv)) := Lib.hid (below_setRow (HB2.out.trans (HC.out.mono (by have := HSA.out; omega))) _ _ (Nat.le_refl _))
              have HRV := Lib.hid hrv
              clear hrv
              go_wp2_with (first | (refine wpList_load_row rfl 23 _ rfl w2.heap.size rfl 23 rv (0, 0) _ HF.out Tryz.underlying23 rfl HI9.out ?_) | (refine wpList_store_row rfl 23 _ _ rfl w.heap.size rv rfl rfl 23 _ HG.out HI9.out (by rw [HS9.out]; simp) HO9.out ?_))
              refine bodyPost_ret (v := .agg rv) (results_cell_row rfl _ _ w.heap.size 23 rv (0, 0) _ rfl (setRow_heap _ _ _ _ _ _ HG.out) Tryz.underlying23 rfl HI9.out) rfl ⟨by rw [hv, HRV.out], HFin.out⟩
end Go.Proofs.YtnpblpbcchminaaGreatDoor
