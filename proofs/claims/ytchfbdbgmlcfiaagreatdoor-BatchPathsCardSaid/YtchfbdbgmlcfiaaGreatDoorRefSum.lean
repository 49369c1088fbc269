/- ref04.Sum: SHA-256 of a text's bytes. -/
import Derived.Test.YtchfbdbgmlcfiaaGreatDoorRefPad
import Derived.StillTailTactics
namespace Go.Proofs.YtchfbdbgmlcfiaaGreatDoor
open Go.ChangeShapes Go.WideShapes Go.ChangeAt Go.RowKit
set_option linter.unusedVariables false
theorem tailB_short (n : Nat) : (tailB n).length ≤ 128 := by simp [tailB, lenB]; omega
theorem blks_take (q : Nat) (H : List Int) (X : List UInt8) (h : 64 * q ≤ X.length) : blks q H X = blks q H (X.take (64 * q)) := by
  conv => lhs; rw [← List.take_append_drop (64 * q) X]
  have := blks_append q 0 H (X.take (64 * q)) (X.drop (64 * q)) (by rw [List.length_take]; omega)
  rw [Nat.add_zero] at this
  rw [this]; rfl
theorem blks_next (q : Nat) (H : List Int) (X : List UInt8) (h : 64 * q + 64 ≤ X.length) : blks (q + 1) H X = blkL (blks q H X) ((X.drop (64 * q)).take 64) := by
  rw [blks_take (q + 1) H X (by omega), blks_take q H X (by omega), ← blks_snoc q H (X.take (64 * q)) ((X.drop (64 * q)).take 64) (by rw [List.length_take]; omega) (by rw [List.length_take, List.length_drop]; omega)]
  congr 1
  rw [show 64 * (q + 1) = 64 * q + 64 by omega, List.take_add]
theorem wpStill_load_row {P : Program} {ops : Array Oper} {rest : List Oper} {o : Oper} {a : Act} {w : World} {Q : Act → Prop} (hgd : o.guard = none) (ty : TypeId) (x : Operand) (ho : o.op = .load ty x)
    (g : Nat) (hx : a.eval x = .pointer (some ⟨g, 0, none⟩)) (t : TypeId) (cs : Array Value) (fr : Nat × Nat) (d : TypeDesc) (hg : w.heap[g]? = some (.cells cs t fr))
    (hu : P.underlying ty = some d) (hd : (match d with | .struct _ | .array _ _ => true | _ => false) = true) (hi : (P.info? ty).map (·.size) = some cs.size)
    (h : wpStill P ops w Q rest (a.put o.dst (.agg cs))) : wpStill P ops w Q (o :: rest) a := wpStill_step fun K hK => by
  rw [if_pos (by simp [Region.wanted, hgd])]
  unfold Oper.still execOp
  simp only [ho, hx, Instr.loadAt, Instr.sureAddr, Sem.run_bind, Sem.run_pure, Result.andThen_ok, run_loadVar_row w g t ty cs fr d hg hu hd hi, Oper.stillUpon_value]
  exact hK _ h
def brow (F : List Int) (t : Nat) : List Int := F.take t ++ List.replicate (32 - t) 0
theorem brow_set (F : List Int) (t : Nat) (x : Int) (h : F.length = 32) (ht : t < 32) (hx : F[t]? = some x) : (brow F t).set t x = brow F (t + 1) := by
  have hl : (F.take t).length = t := by rw [List.length_take]; omega
  unfold brow
  rw [List.set_append_right _ _ (by omega), hl, Nat.sub_self, show 32 - t = (32 - (t + 1)) + 1 by omega, List.replicate_succ, List.set_cons_zero, List.take_add_one, hx]
  simp
theorem ints4_at : ∀ (l : List Int) (t : Nat) (x : Int), l[t / 4]? = some x → (l.flatMap ints4)[t]? = some (x / 2 ^ (24 - 8 * (t % 4)) % 256)
  | [], t, x, h => by simp at h
  | y :: l, t, x, h => by
    rw [List.flatMap_cons]
    by_cases ht : t < 4
    · rw [show t / 4 = 0 by omega] at h
      simp at h; subst h
      rw [List.getElem?_append_left (by simp [ints4]; omega)]
      match t, ht with
      | 0, _ => rfl
      | 1, _ => rfl
      | 2, _ => rfl
      | 3, _ => show some (y % 256) = some (y / 2 ^ 0 % 256); simp
    · rw [List.getElem?_append_right (by simp [ints4]; omega)]
      have := ints4_at l (t - 4) x (by rw [show t / 4 = (t - 4) / 4 + 1 by omega] at h; simpa using h)
      rw [show (t - 4) % 4 = t % 4 by omega] at this
      simpa [ints4] using this
set_option maxRecDepth 100000 in
set_option maxHeartbeats 4000000 in
theorem refsum_any (s : ByteArray) (w : World) (hs : s.size ≤ 100000000000) :
    Calls Tryz.prog 153 #[.string s] w fun ev w' => ev = .returned (hv (shaB (bOf s))) ∧ Below w.heap.size w w' := by
  have hBa : Hid (Below w.heap.size w (w.alloc (.cells (List.replicate 32 (Value.int .u8 0)).toArray 75))) := Lib.hid ((Below.refl _ _).alloc (Nat.le_refl _) _)
  have hRa : Hid (IRow (w.alloc (.cells (List.replicate 32 (Value.int .u8 0)).toArray 75)) w.heap.size .u8 75 (List.replicate 32 0)) := Lib.hid (irow_new _ _ _ _ (by simp))
  obtain ⟨wa, hwa⟩ : ∃ wa, w.alloc (.cells (List.replicate 32 (Value.int .u8 0)).toArray 75) = wa := ⟨_, rfl⟩
  have hsa : w.heap.size + 1 = wa.heap.size := by rw [← hwa]; simp
  rw [hwa] at hBa hRa
  simp only [List.replicate, List.toArray] at hwa
  have HSA := Lib.hid hsa
  have HS0 := Lib.hid hs
  clear hs hsa
  go_enter Tryz.func153, Tryz.ntmps153
  go_wp2_with fail
  refine (padded_any s wa HS0.out).mono ?_
  rintro ev w1 ⟨A, cap, rfl, ⟨hxl, hxc, hxm, g, rfl, hg1, hg2, hg3, _⟩, hB1⟩
  obtain ⟨X, hX⟩ : ∃ X, bOf s ++ tailB s.size = X := ⟨_, rfl⟩
  obtain ⟨L, hL⟩ : ∃ L, X.length = L := ⟨_, rfl⟩
  rw [hX] at hxl hxc hg3 ⊢
  rw [hL] at hxc ⊢
  have hm0 : Hid (L = 64 * (L / 64) ∧ L ≤ 100000001000) := Lib.hid (by have h := tailB_length s.size; rw [← hL, ← hX, List.length_append, bOf_length]; have h2 := tailB_short s.size; have := HS0.out; omega)
  obtain ⟨m, hm⟩ : ∃ m, L / 64 = m := ⟨_, rfl⟩
  rw [hm] at hm0
  obtain ⟨hL64, hLM⟩ := hm0.out
  subst hL64
  have HX := Lib.hid hX
  have HL := Lib.hid hL
  have HG := Lib.hid hg3
  have HCM := Lib.hid (show cap ≤ 9223372036854775807 by unfold maxLen at hxm; exact hxm)
  have HB1 := Lib.hid hB1
  have HS1 := Lib.hid (And.intro hB1.size hg2)
  have HM := Lib.hid hm
  clear hX hL hm hxl hxm hg3 hB1 hwa
  go_wp2_with fail
  refine (table_any w1).mono ?_
  rintro ev w2 ⟨rfl, hB2⟩
  have HS2 := Lib.hid hB2.size
  obtain ⟨kv, hkv⟩ : ∃ kv, intsV shaK = kv := ⟨_, rfl⟩
  have HZ1 : Hid (kv.size = 64) := Lib.hid (by rw [← hkv, intsV_size]; rfl)
  have HI1 : Hid ((Tryz.prog.info? 262).map (·.size) = some kv.size) := Lib.hid (by rw [HZ1.out]; kernel_rfl)
  have HO1 : Hid (kv.all (·.oneCell') = true) := Lib.hid (by rw [← hkv]; exact intsV_one _)
  have HB2 := Lib.hid hB2
  rw [hkv]
  have HKV := Lib.hid hkv
  clear hkv hB2
  go_wp2_with (refine wpList_store_row rfl 262 _ _ rfl w2.heap.size kv rfl rfl 262 _ (heap_alloc_new _ _) HI1.out (by rw [HZ1.out]; rfl) HO1.out ?_)
  refine (start_any _).mono ?_
  rintro ev w4 ⟨rfl, hB4⟩
  obtain ⟨hv0, hhv⟩ : ∃ hv0, intsV shaH0 = hv0 := ⟨_, rfl⟩
  have HZ2 : Hid (hv0.size = 8) := Lib.hid (by rw [← hhv, intsV_size]; rfl)
  have HI2 : Hid ((Tryz.prog.info? 264).map (·.size) = some hv0.size) := Lib.hid (by rw [HZ2.out]; kernel_rfl)
  have HO2 : Hid (hv0.all (·.oneCell') = true) := Lib.hid (by rw [← hhv]; exact intsV_one _)
  have HB4 : Hid (Below (w2.heap.size + 1) ((w2.alloc (.cells (List.replicate 64 (Value.int .u32 0)).toArray 262)).setRow w2.heap.size kv) w4) := Lib.hid (by have h := hB4; rw [setRow_size, World.size_alloc] at h; exact h)
  have HT4 : Hid (w4.heap[w2.heap.size]? = some (.cells kv 262 (0, 0))) := Lib.hid (by rw [HB4.out.block _ (Nat.lt_succ_self _)]; exact setRow_heap _ _ _ _ _ _ (heap_alloc_new _ _))
  have HS4 : Hid (w2.heap.size + 1 ≤ w4.heap.size) := Lib.hid (by have h := HB4.out.size; rw [setRow_size, World.size_alloc] at h; exact h)
  have HB24 : Hid (Below w2.heap.size w2 w4) := Lib.hid ((below_setRow ((Below.refl _ w2).alloc (Nat.le_refl _) (.cells (List.replicate 64 (Value.int .u32 0)).toArray 262)) w2.heap.size kv (Nat.le_refl _)).trans (HB4.out.mono (by omega)))
  rw [hhv]
  have HHV := Lib.hid hhv
  clear hhv hB4
  go_wp2_with (refine wpList_store_row rfl 264 _ _ rfl w4.heap.size hv0 rfl rfl 264 _ (heap_alloc_new _ _) HI2.out (by rw [HZ2.out]; rfl) HO2.out ?_)
  obtain ⟨W5, hW5⟩ : ∃ W5, (w4.alloc (.cells (List.replicate 8 (Value.int .u32 0)).toArray 264)).setRow w4.heap.size hv0 = W5 := ⟨_, rfl⟩
  have HR5 : Hid (IRow W5 w4.heap.size .u32 264 (blks 0 shaH0 X)) := Lib.hid (by unfold IRow; rw [← hW5, setRow_heap _ _ _ _ _ _ (heap_alloc_new _ _), ← HHV.out]; rfl)
  have HB5 : Hid (Below w4.heap.size w4 W5) := Lib.hid (by rw [← hW5]; exact below_setRow ((Below.refl _ w4).alloc (Nat.le_refl _) (.cells (List.replicate 8 (Value.int .u32 0)).toArray 264)) _ _ (Nat.le_refl _))
  have HS5 : Hid (W5.heap.size = w4.heap.size + 1) := Lib.hid (by rw [← hW5]; simp)
  simp only [List.replicate, List.toArray] at hW5
  show Code.wp _ _ _ _ _
  rw [hW5]
  obtain ⟨B6, hB6⟩ : ∃ B6, w2.heap.size = B6 := ⟨_, rfl⟩
  obtain ⟨B7, hB7⟩ : ∃ B7, w4.heap.size = B7 := ⟨_, rfl⟩
  have HB6 := Lib.hid hB6
  have HB7 := Lib.hid hB7
  rw [hB6] at HT4 ⊢
  rw [hB7] at HR5 HB5 HS5 ⊢
  have h67 : B6 < B7 := by have := HS4.out; omega
  have hg6 : g < B6 := by have := HS2.out; have := HS1.out.2; omega
  clear hB6 hB7 hW5
  go_loopw [6] (fun c wr => ∃ q : Nat, q ≤ m ∧ c = .int .i64 (64 * (q : Int)) ∧ Hid (IRow wr B7 .u32 264 (blks q shaH0 X)) ∧ Hid (Below B7 w4 wr) ∧ B7 < wr.heap.size) (fun c _ => 64 * m - (intOf c).toNat)
  case atStart => exact ⟨0, by omega, rfl, HR5, HB5, by have := HS5.out; omega⟩
  case round =>
    obtain ⟨q, hq, rfl, HR, HB, hwr⟩ := hrel
    by_cases hlt : q < m
    · obtain ⟨hq0, hhq⟩ : ∃ hq0, intsV (blks q shaH0 X) = hq0 := ⟨_, rfl⟩
      have HZ3 : Hid (hq0.size = 8) := Lib.hid (by rw [← hhq, intsV_size, blks_length _ _ _ rfl])
      have HI3 : Hid ((Tryz.prog.info? 264).map (·.size) = some hq0.size) := Lib.hid (by rw [HZ3.out]; kernel_rfl)
      have HG3 : Hid (wr.heap[B7]? = some (.cells hq0 264 (0, 0))) := Lib.hid (by have h := HR.out; unfold IRow at h; rw [h, ← hhq]; rfl)
      have HG4 : Hid (wr.heap[B6]? = some (.cells kv 262 (0, 0))) := Lib.hid (by rw [HB.out.block _ h67]; exact HT4.out)
      have HHQ := Lib.hid hhq
      have hcm := HCM.out
      have hlm := hLM
      obtain ⟨p, hp⟩ : ∃ p : Nat, 64 * q = p := ⟨_, rfl⟩
      rw [show (64 * (q : Int)) = (p : Int) by omega]
      have HP := Lib.hid hp
      have i1 : (p : Int) < 64 * m := by omega
      have i6 : (p : Int) + 64 ≤ cap := by omega
      have i7 : p + 64 ≤ cap := by omega
      have i8 : ¬ cap = p := by omega
      have i9 : (p : Int) ≤ max ((p : Int) + 64) 0 := by omega
      have j1 : (0 : Int) ≤ (p : Int) + 64 := by omega
      have j2 : ((p : Int) + 64).toNat = p + 64 := by omega
      have hp9 : p ≤ 100000001000 := by omega
      have hw6 : IntKind.i64.wrap ((p : Int) + 64) = (p : Int) + 64 := IntWalk.i64_in _ (by omega)
      clear hp
      clear hhq
      go_wp2_with fail
      go_still_tail 7, (by kernel_rfl)
      refine wpStill_load_row rfl 264 _ rfl B7 rfl 264 hq0 (0, 0) _ HG3.out Tryz.underlying264 rfl HI3.out ?_
      repeat still_step
      refine wpStill_load_row rfl 262 _ rfl B6 rfl 262 kv (0, 0) _ HG4.out Tryz.underlying262 rfl HI1.out ?_
      refine wpStill_nil ?_
      go_wp2_with fail
      have HB14 : Hid (Below w1.heap.size w1 wr) := Lib.hid ((HB2.out.trans (HB24.out.mono HS2.out)).trans (HB.out.mono (by have := HS2.out; have := HB6.out; omega)))
      have HX5 : Hid (wr.rangeAt g p (bytesV ((X.drop p).take 64))) := Lib.hid (by
        have h := rangeAt_sub (rangeAt_below HB14.out HG.out (by have := HS1.out.2; omega)) p 64
        rw [Nat.zero_add, ← bytesV_drop, ← bytesV_take] at h
        exact h)
      have HX6 : Hid (((X.drop p).take 64).length = 64) := Lib.hid (by rw [List.length_take, List.length_drop, HL.out]; have := HP.out; omega)
      have HX7 : Hid (blkL (blks q shaH0 X) ((X.drop p).take 64) = blks (q + 1) shaH0 X) := Lib.hid (by rw [blks_next q shaH0 X (by rw [HL.out]; omega), HP.out])
      rw [← HHQ.out]
      refine (refblock_any g p 64 (cap - p) (blks q shaH0 X) ((X.drop p).take 64) kv wr.drew HKV.out.symm (blks_length _ _ _ rfl) HX5.out HX6.out (Nat.le_refl _) (by omega) (by omega)).mono ?_
      rintro ev w9 ⟨rfl, hB9⟩
      rw [HX7.out]
      obtain ⟨hn0, hhn⟩ : ∃ hn0, intsV (blks (q + 1) shaH0 X) = hn0 := ⟨_, rfl⟩
      have HZ5 : Hid (hn0.size = 8) := Lib.hid (by rw [← hhn, intsV_size, blks_length _ _ _ rfl])
      have HI5 : Hid ((Tryz.prog.info? 264).map (·.size) = some hn0.size) := Lib.hid (by rw [HZ5.out]; kernel_rfl)
      have HO5 : Hid (hn0.all (·.oneCell') = true) := Lib.hid (by rw [← hhn]; exact intsV_one _)
      have HB9 : Hid (Below wr.heap.size wr w9) := Lib.hid (((Below.refl _ wr).drew).trans hB9)
      have HG9 : Hid (w9.heap[B7]? = some (.cells hq0 264 (0, 0))) := Lib.hid (by rw [HB9.out.block _ hwr]; exact HG3.out)
      have hsz9 := HB9.out.size
      rw [hhn]
      have HHN := Lib.hid hhn
      clear hhn hB9
      go_wp2_with (refine wpList_store_row rfl 264 _ _ rfl B7 hn0 rfl rfl 264 _ HG9.out HI5.out (by rw [HZ5.out, HZ3.out]) HO5.out ?_)
      go_roundw
      case rel => exact ⟨q + 1, by omega, by have := HP.out; congr 1; omega, Lib.hid (by unfold IRow; rw [setRow_heap _ _ _ _ _ _ HG9.out, ← HHN.out]; rfl), Lib.hid (below_setRow (HB.out.trans (HB9.out.mono (by omega))) _ _ (Nat.le_refl _)), by rw [setRow_size]; omega⟩
      case measure => have := HP.out; simp [intOf]; omega
    · obtain rfl : q = m := by omega
      obtain ⟨Hs, hHL⟩ : ∃ Hs, blks q shaH0 X = Hs := ⟨_, rfl⟩
      rw [hHL] at HR
      have HL8 : Hid (Hs.length = 8) := Lib.hid (by rw [← hHL]; exact blks_length _ _ _ rfl)
      have HSh : Hid (shaB (bOf s) = Hs.flatMap wordBytes) := Lib.hid (by
        unfold shaB
        rw [bOf_length, HX.out, ← hHL]
        have h1 := congrArg List.length HX.out
        rw [List.length_append, bOf_length, HL.out] at h1
        rw [show (s.size + (tailB s.size).length) / 64 = q by omega])
      have HB0 : Hid (Below wa.heap.size wa wr) := Lib.hid ((HB1.out.trans (HB2.out.mono HS1.out.1)).trans ((HB24.out.mono (by have := HS1.out.1; have := HS2.out; omega)).trans (HB.out.mono (by have := HS1.out.1; have := HS2.out; have := HB6.out; omega))))
      have HF32 : Hid ((Hs.flatMap ints4).length = 32) := Lib.hid (by rw [ints4_len, HL8.out])
      have hsr := HB0.out.size
      have HI0 : Hid (IRow (wr.alloc (.cells (List.replicate 32 (Value.int .u8 0)).toArray 75)) wr.heap.size .u8 75 (brow (Hs.flatMap ints4) 0)) := Lib.hid (irow_new _ _ _ _ (by simp [brow]))
      have HC0 : Hid (Below wr.heap.size wr (wr.alloc (.cells (List.replicate 32 (Value.int .u8 0)).toArray 75))) := Lib.hid ((Below.refl _ _).alloc (Nat.le_refl _) _)
      simp only [List.replicate, List.toArray] at HI0 HC0
      clear hHL
      obtain ⟨wb, rfl⟩ : ∃ wb : World, wb = wr := ⟨_, rfl⟩
      go_wp2
      go_loopw [8] (fun c wr => ∃ t : Nat, t ≤ 32 ∧ c = .int .i64 (t : Int) ∧ Hid (IRow wr wb.heap.size .u8 75 (brow (Hs.flatMap ints4) t)) ∧ Hid (Below wb.heap.size wb wr)) (fun c _ => 32 - (intOf c).toNat)
      case atStart => exact ⟨0, by omega, rfl, HI0, HC0⟩
      case round =>
        obtain ⟨t, ht, rfl, HI, HC⟩ := hrel
        by_cases hlt : t < 32
        · obtain ⟨x, hx⟩ : ∃ x, Hs[t / 4]? = some x := ⟨_, List.getElem?_eq_getElem (by rw [HL8.out]; omega)⟩
          have c0 := (HR.out.below HC.out hwr).cell hx
          have HX9 := Lib.hid (ints4_at Hs t x hx)
          clear hx
          have o0 := HI.out.cell (j := t) (x := 0) (by unfold brow; rw [List.getElem?_append_right (by rw [List.length_take]; omega), List.getElem?_replicate, if_pos (by rw [List.length_take]; have := HF32.out; omega)])
          have f0 := HI.out.frozen t
          have i1 : (t : Int) < 32 := by omega
          have i0 : (0 : Int) ≤ t := by omega
          rw [show 24 - 8 * (t % 4) = 24 - t % 4 * 8 by omega] at HX9
          go_wp2
          refine ⟨⟨t + 1, by omega, by go_num, Lib.hid ((HI.out.set t _).congr (brow_set (Hs.flatMap ints4) t _ HF32.out hlt HX9.out)), Lib.hid (HC.out.setCell (p := ⟨wb.heap.size, t, none⟩) (Nat.le_refl _) _)⟩, ?_⟩
          simp [intOf]; omega
        · obtain rfl : t = 32 := by omega
          obtain ⟨rv, hrv⟩ : ∃ rv, (bytesV (shaB (bOf s))).toArray = rv := ⟨_, rfl⟩
          have hbr : (brow (Hs.flatMap ints4) 32).map (Value.int .u8) = bytesV (Hs.flatMap wordBytes) := by
            have h := orow_all Hs HL8.out
            unfold orow at h
            unfold brow
            rw [List.take_of_length_le (by have := HL8.out; omega)] at h
            rw [List.take_of_length_le (by have := HF32.out; omega)]
            exact h
          have HF : Hid (wr.heap[wb.heap.size]? = some (.cells rv 75 (0, 0))) := Lib.hid (by have h := HI.out; unfold IRow at h; rw [h, hbr, ← hrv, HSh.out])
          have HG9 : Hid (wr.heap[w.heap.size]? = some (.cells ((List.replicate 32 (0 : Int)).map (Value.int .u8)).toArray 75 (0, 0))) := Lib.hid ((hRa.out.below HB0.out (by have := HSA.out; omega)).below HC.out (by have := HSA.out; have := HB0.out.size; omega))
          have HS9 : Hid (rv.size = 32) := Lib.hid (by rw [← hrv]; simp [bytesV_length, shaB_length])
          have HI9 : Hid ((Tryz.prog.info? 75).map (·.size) = some rv.size) := Lib.hid (by rw [HS9.out]; kernel_rfl)
          have HO9 : Hid (rv.all (·.oneCell') = true) := Lib.hid (by rw [← hrv]; exact bytesV_all _)
          have HFin : Hid (Below w.heap.size w (wr.setRow w.heap.size rv)) := Lib.hid (below_setRow ((hBa.out.trans (HB0.out.mono (by have := HSA.out; omega))).trans (HC.out.mono (by have := HSA.out; have := HB0.out.size; omega))) _ _ (Nat.le_refl _))
          have HRV := Lib.hid hrv
          clear hrv hbr
          go_wp2_with (first | (refine wpList_load_row rfl 75 _ rfl wb.heap.size rfl 75 rv (0, 0) _ HF.out Tryz.underlying75 rfl HI9.out ?_) | (refine wpList_store_row rfl 75 _ _ rfl w.heap.size rv rfl rfl 75 _ HG9.out HI9.out (by rw [HS9.out]; simp) HO9.out ?_))
          refine bodyPost_ret (v := .agg rv) (results_cell_row rfl _ _ w.heap.size 75 rv (0, 0) _ rfl (setRow_heap _ _ _ _ _ _ HG9.out) Tryz.underlying75 rfl HI9.out) rfl ⟨by rw [hv, HRV.out], HFin.out⟩
end Go.Proofs.YtchfbdbgmlcfiaaGreatDoor
