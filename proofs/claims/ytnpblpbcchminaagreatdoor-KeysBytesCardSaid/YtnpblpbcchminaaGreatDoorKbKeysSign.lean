import Derived.Test.YtnpblpbcchminaaGreatDoorKbKeysPub
/- keys: Public, Left, Sign. Condition: the table reads as listed. -/
namespace Go.Proofs.YtnpblpbcchminaaGreatDoor
open Go.ChangeShapes Go.WideShapes Go.ChangeAt Go.RowKit
set_option linter.unusedVariables false

theorem xor_i64 (a b : Nat) (ha : a < 4294967296) (hb : b < 4294967296) : bits .xor .i64 (a : Int) (b : Int) = ((a ^^^ b : Nat) : Int) := by
  have ha' : a % 2 ^ IntKind.i64.bits = a := Nat.mod_eq_of_lt (by simp [IntKind.bits]; omega)
  have hb' : b % 2 ^ IntKind.i64.bits = b := Nat.mod_eq_of_lt (by simp [IntKind.bits]; omega)
  have hx : a ^^^ b < 2 ^ 32 := Nat.xor_lt_two_pow (by omega) (by omega)
  simp only [bits, BitVec.ofInt_natCast, BitVec.toNat_xor, BitVec.toNat_ofNat, ha', hb']
  exact IntWalk.i64_in _ (by omega)
theorem getD_32 {l : List (List UInt8)} {w : World} {i : Nat} {P : Option Addr → Nat → Nat → Prop} (h : ∃ A m c, P A m c ∧ HIn w A m c l) (hi : i < l.length) : (l.getD i []).length = 32 := by
  obtain ⟨A, m, c, -, h2⟩ := h
  rw [List.getD_eq_getElem?_getD, List.getElem?_eq_getElem hi]
  exact h2.1 _ (List.getElem_mem _)
theorem path_lt {x n i : Nat} (hx : x < 2 ^ n) (hi : i < n) : x / 2 ^ i ^^^ 1 < 2 ^ (n - i) := by
  have h1 : x / 2 ^ i < 2 ^ (n - i) := by rw [Nat.div_lt_iff_lt_mul (Nat.two_pow_pos _), ← Nat.pow_add, show n - i + i = n by omega]; exact hx
  have h2 : 2 ^ (n - i) = 2 ^ (n - (i + 1)) * 2 := by rw [← Nat.pow_succ]; congr 1; omega
  obtain ⟨z, hz⟩ : ∃ z, x / 2 ^ i = z := ⟨_, rfl⟩
  rw [hz] at h1 ⊢
  rw [xor_one]
  split <;> omega
set_option maxRecDepth 100000 in
set_option maxHeartbeats 8000000 in
theorem ksign_own (b : Nat) (s : List UInt8) (L : List (List UInt8)) (n x : Nat) (v0 : Array Value) (ls : List Value) (t : ByteArray) (w : World) (h : KAt w b s (rowB L) n x v0 ls) (hn : n ≤ 6) (hL : L.length = 2 ^ n) (hx : x < 2 ^ n) (hs : s.length = 32) (ht : t.size ≤ 9223372036854775807) (hK : KTab 17 w) (hkb : b ≠ 17) :
    Calls Tryz.prog 16 #[.pointer (some ⟨b, 0, none⟩), .string t] w fun ev w' => ∃ G0 A c, ev = .returned (.tuple #[.agg #[.int .i64 x, .slice (some ⟨G0, 0, none⟩) 67 67, .slice A n c], .nilIface]) ∧ HIn w' (some ⟨G0, 0, none⟩) 67 67 (sigB (ownB s x) (msgB x (bOf t))) ∧ HIn w' A n c (pathK L n x) ∧ (∃ ys, w'.ownsRow w.heap.size 23 32 (.slice (some ⟨G0, 0, none⟩) 67 67) 67 ys) ∧ (∃ ys, w'.ownsRow w.heap.size 23 32 (.slice A n c) n ys) ∧ (Value.slice (some ⟨G0, 0, none⟩) 67 67).ownBlock ≠ (Value.slice A n c).ownBlock ∧ KAt w' b s (rowB L) n (x + 1) v0 ls ∧ But (· = b) w w' := by
  have hbl := h.lt
  have hP : (2 : Nat) ^ n ≤ 64 := Nat.pow_le_pow_right (n := 2) (by omega) (show n ≤ 6 from hn)
  obtain ⟨i0, hi, hz0, hz1, hz2⟩ := info_parts info_hash
  obtain ⟨wv, hwv⟩ : ∃ y9 : World, (w.alloc (.cells #[.int .i64 0, .slice none 0 0, .slice none 0 0] 26)) = y9 := ⟨_, rfl⟩
  have HBv : Hid (Below w.heap.size w wv) := Lib.hid (by rw [← hwv]; exact ((Below.refl _ _).alloc (by simp <;> omega) _))
  have HSV : Hid (wv.heap.size = w.heap.size + 1) := Lib.hid (by rw [← hwv]; simp)
  have RZ : Hid (wv.heap[w.heap.size]? = some (.cells #[.int .i64 0, .slice none 0 0, .slice none 0 0] 26 (0, 0))) := Lib.hid (by rw [← hwv]; exact heap_at _ _ _ (by simp <;> omega))
  have HWV := Lib.hid hwv
  have hv := h.below HBv.out
  obtain ⟨z39, z40, z41⟩ := hv.cells
  have HLE : Hid (Calls Tryz.prog 24 #[.pointer (some ⟨b, 0, none⟩)] wv fun ev w' => ev = .returned (.int .i64 ((2 ^ n - x : Nat) : Int)) ∧ Below wv.heap.size wv w') := Lib.hid (kleft_any b s (rowB L) n x v0 ls wv hv hn (by omega))
  obtain ⟨D, hD⟩ : ∃ D, 2 ^ n - x = D := ⟨_, rfl⟩
  rw [hD] at HLE
  have d1 : ((D : Int) == 0) = false := by simp; omega
  have HV := Lib.hid hv
  have HLL := Lib.hid hL
  have HV0 := Lib.hid h
  have HX := Lib.hid (And.intro hx hP)
  have HS := Lib.hid hs
  have HT2 := Lib.hid ht
  have HKK := Lib.hid (ktab_below hK HBv.out hK.lt)
  clear hv h hwv hD hL hs ht hK
  go_enter Tryz.func16, Tryz.ntmps16
  go_upto_region 1 with fail
  rw [HWV.out]
  go_upto_region 3 with fail
  go_wp2_with fail
  refine HLE.out.mono ?_
  rintro ev w1 ⟨rfl, b1⟩
  have B1 := Lib.hid b1
  have HV1 := Lib.hid (HV.out.below b1)
  obtain ⟨y39, y40, y41⟩ := HV1.out.cells
  have yf := frozen_of_row w1 b 40 _ 51 HV1.out.row
  clear b1 z39 z40 z41
  go_upto_region 7 with fail
  obtain ⟨w2, hw2⟩ : ∃ y, w1.setCell ⟨b, 40, none⟩ (.int .i64 ((x : Int) + 1)) = y := ⟨_, rfl⟩
  have HV2 : Hid (KAt w2 b s (rowB L) n (x + 1) v0 ls) := Lib.hid (by rw [← hw2, show ((x : Int) + 1) = ((x + 1 : Nat) : Int) by omega]; exact HV1.out.next (x + 1))
  have BT2 : Hid (But (· = b) w1 w2) := Lib.hid (by rw [← hw2]; exact (But.refl _ _).setCell _ _ _ (fun _ => rfl))
  have HK2 : Hid (KTab 17 w2) := Lib.hid ((ktab_below HKK.out B1.out HKK.out.lt).but BT2.out (fun e => hkb e.symm))
  rw [hw2]
  clear hw2 yf y40 y41
  obtain ⟨vo, evo, Hvo, Zvo, Ivo, Ovo⟩ := row_of (ownB s x) (ownB_length _ _)
  obtain ⟨vm, evm, Hvm, Zvm, Ivm, Ovm⟩ := row_of (msgB x (bOf t)) (msgB_length _ _)
  have HOW : Hid (Calls Tryz.prog 44 #[.pointer (some ⟨b, 0, none⟩), .int .i64 x] w2 fun ev w' => ev = .returned (.agg vo) ∧ Below w2.heap.size w2 w') := Lib.hid (by
    have := own_any b s x w2 HS.out HV2.out.range HV2.out.lt (by have := HX.out; omega) HK2.out
    rw [evo] at this; exact this)
  have HME : Hid (∀ w', Below w2.heap.size w2 w' → Calls Tryz.prog 35 #[.int .i64 x, .string t] w' fun ev w3 => ev = .returned (.agg vm) ∧ Below w'.heap.size w' w3) := Lib.hid (fun w' hb => by
    have := msg_any x t w' (by have := HX.out; omega) HT2.out (ktab_below HK2.out hb HK2.out.lt)
    rw [evm] at this; exact this)
  have HSI : Hid (∀ w', Below w2.heap.size w2 w' → Calls Tryz.prog 49 #[.agg vo, .agg vm] w' fun ev w3 => ∃ G, w'.heap.size ≤ G ∧ ev = .returned (.slice (some ⟨G, 0, none⟩) 67 67) ∧ HIn w3 (some ⟨G, 0, none⟩) 67 67 (sigB (ownB s x) (msgB x (bOf t))) ∧ (∃ ys, w3.ownsRow w'.heap.size 23 32 (.slice (some ⟨G, 0, none⟩) 67 67) 67 ys) ∧ Below w'.heap.size w' w3) := Lib.hid (fun w' hb => by
    have := sign_own (ownB s x) (msgB x (bOf t)) w' (ownB_length _ _) (msgB_length _ _) (ktab_below HK2.out hb HK2.out.lt)
    rw [evo, evm] at this; exact this)
  clear evo evm
  go_wp2_with fail
  refine HOW.out.mono ?_
  rintro ev w3 ⟨rfl, b3⟩
  have B3 := Lib.hid b3
  clear b3
  go_wp2_with fail
  refine (HME.out w3 B3.out).mono ?_
  rintro ev w4 ⟨rfl, b4⟩
  have B4 := Lib.hid (B3.out.trans (b4.mono B3.out.size))
  clear b4
  go_wp2_with fail
  refine (HSI.out w4 B4.out).mono ?_
  rintro ev w5 ⟨G0, hG0, rfl, hI5, ⟨ys5, hO5⟩, b5⟩
  have HO5 := Lib.hid hO5
  clear hO5
  have HI5 := Lib.hid hI5
  have HG0 := Lib.hid hG0
  have B5 := Lib.hid (B4.out.trans (b5.mono B4.out.size))
  have HV5 := Lib.hid (HV2.out.below B5.out)
  clear b5 hI5 hG0
  go_upto_region 8 with fail
  obtain ⟨w7, hw7⟩ : ∃ y, w5.alloc (.cells #[.int .i64 x, .slice (some ⟨G0, 0, none⟩) 67 67, .slice none 0 0] 26) = y := ⟨_, rfl⟩
  have B7 : Hid (Below w5.heap.size w5 w7) := Lib.hid (by rw [← hw7]; exact (Below.refl _ w5).alloc (Nat.le_refl _) _)
  have R7 : Hid (w7.heap[w5.heap.size]? = some (.cells #[.int .i64 x, .slice (some ⟨G0, 0, none⟩) 67 67, .slice none 0 0] 26 (0, 0))) := Lib.hid (by rw [← hw7]; exact heap_at _ _ _ rfl)
  have S7 : Hid (w7.heap.size = w5.heap.size + 1) := Lib.hid (by rw [← hw7]; simp)
  rw [hw7]
  clear hw7
  obtain ⟨G, hG⟩ : ∃ y, w5.heap.size = y := ⟨_, rfl⟩
  have HG := Lib.hid hG
  rw [hG] at B7 R7 S7
  rw [hG]
  have HV7 := Lib.hid (HV5.out.below (by rw [hG]; exact B7.out))
  obtain ⟨x39, x40, x41⟩ := HV7.out.cells
  clear hG
  go_wp2_with fail
  go_loopw [51] (fun c wr => ∃ (j : Nat) (v : Value), j ≤ n ∧ c = .int .i64 j ∧ Hid (wr.ownsRow w7.heap.size 23 32 v j (hashCells ((pathK L n x).take j))) ∧ Hid (wr.heap[G]? = some (.cells #[.int .i64 x, .slice (some ⟨G0, 0, none⟩) 67 67, v] 26 (0, 0))) ∧ Hid (But (· = G) w7 wr) ∧ Hid (v.ownBlock ≠ some G)) (fun c _ => n - (intOf c).toNat)
  case atStart => exact ⟨0, .slice none 0 0, Nat.zero_le _, rfl, Lib.hid (World.ownsRow_nil _ _ _ _), R7, Lib.hid (But.refl _ _), Lib.hid (by simp [Value.ownBlock])⟩
  case round =>
    obtain ⟨j, v, hj, rfl, OWN, HR, HBT, HNB⟩ := hrel
    have hsr := HBT.out.size
    have hs7 := S7.out
    have HLT := Lib.hid (fun k q => (OWN.out.lt k q).1)
    have HB5 : Hid (Below G w5 wr) := Lib.hid (B7.out.trans (HBT.out.to_below (by omega) (fun k hk q => by omega)))
    have HVr := Lib.hid (HV5.out.below (by rw [HG.out]; exact HB5.out))
    by_cases hlt : j < n
    · have HPO : Hid (∀ k, k < w7.heap.size → (k = G ∨ v.ownBlock = some k) → k = G) := Lib.hid (fun k hk q => by
        rcases q with q | q
        · exact q
        · have := HLT.out k q; omega)
      have HBX : Hid (∀ w', But (fun k => k = G ∨ v.ownBlock = some k) wr w' → Below G w5 w') := Lib.hid (fun w' hw => HB5.out.trans (But.to_below hw (by omega) (fun k hk q => by
        rcases q with q | q
        · omega
        · have := HLT.out k q; omega)))
      have hlj := rowB_length HLL.out j (by omega)
      have hxj := path_lt HX.out.1 hlt
      obtain ⟨p, hp⟩ : ∃ p, (rowB L j)[x / 2 ^ j ^^^ 1]? = some p := ⟨_, List.getElem?_eq_getElem (by rw [hlj]; exact hxj)⟩
      have HPA : Hid ((pathK L n x)[j]? = some p) := Lib.hid (by
        unfold pathK
        rw [List.getElem?_map, List.getElem?_range hlt]
        simp [List.getD_eq_getElem?_getD, hp])
      obtain ⟨A, m, c, hc0, hl0⟩ := HVr.out.list (show j < 7 by omega)
      obtain ⟨g, o, rfl, -, -, hp32⟩ := hl0.row hp
      obtain ⟨vp, evp, Hvp, Zvp, Ivp, Ovp⟩ := row_of p hp32
      obtain ⟨lp, hlp⟩ : ∃ q, bytesV p = q := ⟨_, rfl⟩
      obtain rfl : vp = lp.toArray := by rw [← hlp]; exact Hvp.out.symm
      have Ilp : Hid ((Tryz.prog.info? 23).map (·.size) = some lp.length) := Lib.hid (by rw [← hlp, bytesV_length, hp32]; kernel_rfl)
      have hml : m = 2 ^ (n - j) := by rw [← hlj]; exact hl0.2.1.symm
      have KL : Hid (∀ w', But (fun k => k = G ∨ v.ownBlock = some k) wr w' → w'.cell? ⟨b, 32 + j, none⟩ = some (.slice (some ⟨g, o, none⟩) m c)) := Lib.hid (fun w' hw => by
        have h2 := HV5.out.below (by rw [HG.out]; exact HBX.out w' hw)
        rw [← hc0, cell_of_row wr b _ _ 51 (0, 0) HVr.out.row, cell_of_row w' b _ _ 51 (0, 0) h2.row])
      have KP : Hid (∀ w', But (fun k => k = G ∨ v.ownBlock = some k) wr w' → w'.rangeAt g (o + (x / 2 ^ j ^^^ 1) * 32) lp) := Lib.hid (fun w' hw => by
        have h2 := HV5.out.below (by rw [HG.out]; exact HBX.out w' hw)
        obtain ⟨A2, m2, c2, hc2, hl2⟩ := h2.list (show j < 7 by omega)
        rw [KL.out w' hw] at hc2
        cases hc2
        obtain ⟨g2, o2, e, -, r, -⟩ := hl2.row hp
        cases e
        rw [← hlp]; exact r)
      have HSN : Hid (∀ (w' : World) (v9 : Value), w'.ownsRow w7.heap.size 23 32 v9 (j + 1) (hashCells ((pathK L n x).take j) ++ hashCells [p]) → Hid (w'.ownsRow w7.heap.size 23 32 v9 (j + 1) (hashCells ((pathK L n x).take (j + 1))))) := Lib.hid (fun w' v9 h => Lib.hid (by
        rw [List.take_add_one, HPA.out]
        rw [← hashCells_append] at h
        exact h))
      have HNE : Hid (∀ (w' : World) (v9 : Value), w'.ownsRow w7.heap.size 23 32 v9 (j + 1) (hashCells ((pathK L n x).take j) ++ hashCells [p]) → Hid (v9.ownBlock ≠ some G)) := Lib.hid (fun w' v9 h => Lib.hid (fun q => by have := (h.lt G q).1; omega))
      have hbl7 : G < wr.heap.size := by omega
      have hxb : bits .xor .i64 ((x : Int) / 2 ^ j) 1 = ((x / 2 ^ j ^^^ 1 : Nat) : Int) := by
        have := xor_i64 (x / 2 ^ j) 1 (by have := Nat.div_le_self x (2 ^ j); have := HX.out; omega) (by omega)
        rw [← this]; congr 1
      obtain ⟨y, hy⟩ : ∃ y, x / 2 ^ j ^^^ 1 = y := ⟨_, rfl⟩
      rw [hy] at hxb hxj KP
      have k0 : (0 : Int) ≤ j := by omega
      have k1 : (j : Int) < n := by omega
      have k2 : (0 : Int) ≤ (y : Int) := by omega
      have k3 : (y : Int) < m := by omega
      have k4 : (j : Int) < 7 := by omega
      clear hl0 hp hlp evp hc0 hlj hml hxj
      go_upto_region 11 with fail
      refine wp_region_held_drew (S := But (fun k => k = G ∨ v.ownBlock = some k) wr) (by kernel_rfl) (But.refl _ _).drew (fun hHeld => ?_)
      refine tk (i := 0) (v := ?v1) rfl ?y1 ?r1
      case y1 => (intro w hSw; (try dsimp only at hSw); go_simp; (try with_reducible rfl))
      try simp only [pu]
      refine tk (i := 2) (v := ?v2) rfl ?y2 ?r2
      case y2 => (intro w hSw; (try dsimp only at hSw); go_simp; (try with_reducible rfl))
      try simp only [pu]
      refine tk (i := 3) (v := ?v3) rfl ?y3 ?r3
      case y3 => (intro w hSw; (try dsimp only at hSw); go_simp; (try with_reducible rfl))
      try simp only [pu]
      refine tk (i := 4) (v := ?v4) rfl ?y4 ?r4
      case y4 => (intro w hSw; (try dsimp only at hSw); go_simp; (try with_reducible rfl))
      try simp only [pu]
      refine tk (i := 5) (v := ?v5) rfl ?y5 ?r5
      case y5 => (intro w hSw; (try dsimp only at hSw); go_simp; (try with_reducible rfl))
      try simp only [pu]
      refine tk (i := 6) (v := ?v6) rfl ?y6 ?r6
      case y6 => (intro w hSw; (try dsimp only at hSw); go_simp; (try with_reducible rfl))
      try simp only [pu]
      refine tk (i := 7) (v := ?v7) rfl ?y7 ?r7
      case y7 => (intro w hSw; (try dsimp only at hSw); have z0 := KL.out w hSw; go_simp; (try with_reducible rfl))
      try simp only [pu]
      refine tk (i := 8) (v := ?v8) rfl ?y8 ?r8
      case y8 => (intro w hSw; (try dsimp only at hSw); go_simp; (try with_reducible rfl))
      try simp only [pu]
      refine tk (i := 9) (v := ?v9) rfl ?y9 ?r9
      case y9 => (intro w hSw; (try dsimp only at hSw); go_simp; (try with_reducible rfl))
      try simp only [pu]
      refine tk (i := 10) (v := ?v10) rfl ?y10 ?r10
      case y10 => (intro w hSw; (try dsimp only at hSw); go_simp; (try with_reducible rfl))
      try simp only [pu]
      refine tk (i := 11) (v := ?v11) rfl ?y11 ?r11
      case y11 => (intro w hSw; (try dsimp only at hSw); go_simp; (try with_reducible rfl))
      try simp only [pu]
      refine tk (i := 12) (v := ?v12) rfl ?y12 ?r12
      case y12 => (intro w hSw; (try dsimp only at hSw); go_simp; (try with_reducible rfl))
      try simp only [pu]
      refine tw (i := 13) rfl (yieldsIf_load_mid (by rfl) 23 _ (by rfl) g (o + y * 32) (by rfl) lp _ (fun w h => KP.out w h) Tryz.underlying23 (by rfl) Ilp.out) ?_
      try simp only [pu]
      refine wpAnyH_ready (rs := [1, 14]) (by kernel_rfl) (by simp) ?_
      refine AllReadyH.cons (i := 1) rfl (fun K2 hK2 => ?_) ?more14
      · skip
        have z0 : wr.drew.cell? ⟨G, 2, none⟩ = some v := (cell_of_row wr.drew G 2 _ 26 (0, 0) (show wr.drew.heap[G]? = _ from HR.out)).trans rfl
        go_simp
        refine hK2.out _ _ ((But.refl (fun k => k = G ∨ v.ownBlock = some k) wr).drew) (fun hHeld2 => ?_)
        clear hK2 K2
        try simp only [pu]
        refine wpAnyH_ready (rs := [14]) (by kernel_rfl) (by simp) ?_
        refine AllReadyH.cons (i := 14) rfl (fun K2 hK2 => ?_) AllReadyH.nil
        rw [if_pos (by rfl)]
        refine wp_buildSlice_row 24 23 _ lp.toArray _ 32 rfl rfl Tryz.underlying24 Tryz.sizeOf23 Tryz.zeroValue23 rfl Zvp.out (by omega) (by omega) ?_
        obtain ⟨w701, hw701⟩ : ∃ x, (wr.drew.alloc (.cells lp.toArray 23)) = x := ⟨_, rfl⟩
        obtain ⟨g701, hg701⟩ : ∃ x, wr.drew.heap.size = x := ⟨_, rfl⟩
        obtain ⟨Kw701, Tw701_1, qw701, fw701⟩ := st_alloc ((But.refl (fun k => k = G ∨ v.ownBlock = some k) wr).drew) hw701 hg701
        rw [hw701, hg701]; clear hw701 hg701
        have Kw701 := Lib.hid Kw701
        have Tw701_1 := Lib.hid Tw701_1
        obtain ⟨Tw701_0, dw701_0⟩ := fw701 _ _ (show wr.drew.heap[G]? = _ from HR.out)
        have Tw701_0 := Lib.hid Tw701_0
        have Ow701 := Lib.hid (own_keep (fun k x h => (fw701 k x h).1) (own_drew OWN.out))
        clear fw701
        refine hK2.out _ _ Kw701.out (fun hHeld2 => ?_)
        clear hK2 K2
        try simp only [pu]
        refine wpAnyH_ready (rs := [15]) (by kernel_rfl) (by simp) ?_
        refine AllReadyH.cons (i := 15) rfl (fun K2 hK2 => ?_) AllReadyH.nil
        rw [if_pos (by rfl)]
        refine wp_append_list _ _ 24 rfl w7.heap.size _ 23 i0 _ 32 32 Tryz.underlying24 hi hz0 hz1 hz2 rfl (by decide) v (.slice (some ⟨g701, 0, none⟩) 1 1) j 1 (hashCells ((pathK L n x).take j)) (hashCells [p]) rfl rfl Ow701.out (own_at p Tw701_1.out Hvp.out Zvp.out) (hashCells_cell _) (by unfold maxLen; omega) (by omega) (by have := (Kw701.out).size; omega) ?_
        intro v9 w702 o9 g9 a9
        obtain ⟨A9, C9, rfl, hC9⟩ := own_shape o9
        obtain ⟨Kw702, fw702⟩ := st_grow Kw701.out g9 (fun k q => .inr q)
        have Kw702 := Lib.hid Kw702
        have Ow702 := Lib.hid o9
        have Tw702_0 := Lib.hid (fw702 _ _ HNB.out Tw701_0.out)
        have HNB9 : (Value.slice A9 (j + 1) C9).ownBlock ≠ some G := by
          rcases a9 with q | q
          · rw [q]; exact HNB.out
          · rw [q]; intro e; injection e with e; have := (Kw701.out).size; omega
        clear fw702 o9 g9 a9
        refine hK2.out _ _ Kw702.out (fun hHeld2 => ?_)
        clear hK2 K2
        try simp only [pu]
        refine tk (i := 16) (v := ?v15) rfl ?y15 ?r15
        case y15 => (intro w hSw; (try dsimp only at hSw); go_simp; (try with_reducible rfl))
        try simp only [pu]
        refine wpAnyH_ready (rs := [17]) (by kernel_rfl) (by simp) ?_
        refine AllReadyH.cons (i := 17) rfl (fun K2 hK2 => ?_) AllReadyH.nil
        have c9 : w702.cell? ⟨G, 2, none⟩ = some v := (cell_of_row w702 G 2 _ 26 (0, 0) Tw702_0.out).trans rfl
        have f9 := frozen_of_row w702 G 2 _ 26 Tw702_0.out
        go_simp
        obtain ⟨w703, hw703⟩ : ∃ x, w702.setCell ⟨G, 2, none⟩ (Value.slice A9 (j + 1) C9) = x := ⟨_, rfl⟩
        obtain ⟨Kw703, Tw703_0, fw703⟩ := st_cell Kw702.out hw703 (fun _ => .inl rfl) Tw702_0.out
        have Kw703 := Lib.hid Kw703
        have Tw703_0 := Lib.hid Tw703_0
        have Ow703 := Lib.hid (own_keep_ne fw703 Ow702.out HNB9)
        clear fw703
        rw [hw703]
        clear hw703
        refine hK2.out _ _ Kw703.out (fun hHeld2 => ?_)
        clear hK2 K2
        try simp only [pu]
        refine wpAnyH_done (by kernel_rfl) ?_ _
        have KE := Lib.hid Kw703.out
        have TE := Lib.hid Tw703_0.out
        have OE := Lib.hid Ow703.out
        go_wp2
        go_roundw
        case rel => exact ⟨j + 1, _, by omega, by go_num, HSN.out _ _ OE.out, Lib.hid TE.out, Lib.hid (HBT.out.step KE.out (fun k hk q => HPO.out k hk q)), HNE.out _ _ OE.out⟩
        case measure => simp [intOf]; omega

      refine AllReadyH.cons (i := 14) rfl (fun K2 hK2 => ?_) ?more16
      · skip
        rw [if_pos (by rfl)]
        refine wp_buildSlice_row 24 23 _ lp.toArray _ 32 rfl rfl Tryz.underlying24 Tryz.sizeOf23 Tryz.zeroValue23 rfl Zvp.out (by omega) (by omega) ?_
        obtain ⟨w704, hw704⟩ : ∃ x, (wr.drew.alloc (.cells lp.toArray 23)) = x := ⟨_, rfl⟩
        obtain ⟨g704, hg704⟩ : ∃ x, wr.drew.heap.size = x := ⟨_, rfl⟩
        obtain ⟨Kw704, Tw704_1, qw704, fw704⟩ := st_alloc ((But.refl (fun k => k = G ∨ v.ownBlock = some k) wr).drew) hw704 hg704
        rw [hw704, hg704]; clear hw704 hg704
        have Kw704 := Lib.hid Kw704
        have Tw704_1 := Lib.hid Tw704_1
        obtain ⟨Tw704_0, dw704_0⟩ := fw704 _ _ (show wr.drew.heap[G]? = _ from HR.out)
        have Tw704_0 := Lib.hid Tw704_0
        have Ow704 := Lib.hid (own_keep (fun k x h => (fw704 k x h).1) (own_drew OWN.out))
        clear fw704
        refine hK2.out _ _ Kw704.out (fun hHeld2 => ?_)
        clear hK2 K2
        try simp only [pu]
        refine wpAnyH_ready (rs := [1]) (by kernel_rfl) (by simp) ?_
        refine AllReadyH.cons (i := 1) rfl (fun K2 hK2 => ?_) AllReadyH.nil
        have z0 : w704.cell? ⟨G, 2, none⟩ = some v := (cell_of_row w704 G 2 _ 26 (0, 0) Tw704_0.out).trans rfl
        go_simp
        refine hK2.out _ _ Kw704.out (fun hHeld2 => ?_)
        clear hK2 K2
        try simp only [pu]
        refine wpAnyH_ready (rs := [15]) (by kernel_rfl) (by simp) ?_
        refine AllReadyH.cons (i := 15) rfl (fun K2 hK2 => ?_) AllReadyH.nil
        rw [if_pos (by rfl)]
        refine wp_append_list _ _ 24 rfl w7.heap.size _ 23 i0 _ 32 32 Tryz.underlying24 hi hz0 hz1 hz2 rfl (by decide) v (.slice (some ⟨g704, 0, none⟩) 1 1) j 1 (hashCells ((pathK L n x).take j)) (hashCells [p]) rfl rfl Ow704.out (own_at p Tw704_1.out Hvp.out Zvp.out) (hashCells_cell _) (by unfold maxLen; omega) (by omega) (by have := (Kw704.out).size; omega) ?_
        intro v9 w705 o9 g9 a9
        obtain ⟨A9, C9, rfl, hC9⟩ := own_shape o9
        obtain ⟨Kw705, fw705⟩ := st_grow Kw704.out g9 (fun k q => .inr q)
        have Kw705 := Lib.hid Kw705
        have Ow705 := Lib.hid o9
        have Tw705_0 := Lib.hid (fw705 _ _ HNB.out Tw704_0.out)
        have HNB9 : (Value.slice A9 (j + 1) C9).ownBlock ≠ some G := by
          rcases a9 with q | q
          · rw [q]; exact HNB.out
          · rw [q]; intro e; injection e with e; have := (Kw704.out).size; omega
        clear fw705 o9 g9 a9
        refine hK2.out _ _ Kw705.out (fun hHeld2 => ?_)
        clear hK2 K2
        try simp only [pu]
        refine tk (i := 16) (v := ?v17) rfl ?y17 ?r17
        case y17 => (intro w hSw; (try dsimp only at hSw); go_simp; (try with_reducible rfl))
        try simp only [pu]
        refine wpAnyH_ready (rs := [17]) (by kernel_rfl) (by simp) ?_
        refine AllReadyH.cons (i := 17) rfl (fun K2 hK2 => ?_) AllReadyH.nil
        have c9 : w705.cell? ⟨G, 2, none⟩ = some v := (cell_of_row w705 G 2 _ 26 (0, 0) Tw705_0.out).trans rfl
        have f9 := frozen_of_row w705 G 2 _ 26 Tw705_0.out
        go_simp
        obtain ⟨w706, hw706⟩ : ∃ x, w705.setCell ⟨G, 2, none⟩ (Value.slice A9 (j + 1) C9) = x := ⟨_, rfl⟩
        obtain ⟨Kw706, Tw706_0, fw706⟩ := st_cell Kw705.out hw706 (fun _ => .inl rfl) Tw705_0.out
        have Kw706 := Lib.hid Kw706
        have Tw706_0 := Lib.hid Tw706_0
        have Ow706 := Lib.hid (own_keep_ne fw706 Ow705.out HNB9)
        clear fw706
        rw [hw706]
        clear hw706
        refine hK2.out _ _ Kw706.out (fun hHeld2 => ?_)
        clear hK2 K2
        try simp only [pu]
        refine wpAnyH_done (by kernel_rfl) ?_ _
        have KE := Lib.hid Kw706.out
        have TE := Lib.hid Tw706_0.out
        have OE := Lib.hid Ow706.out
        go_wp2
        go_roundw
        case rel => exact ⟨j + 1, _, by omega, by go_num, HSN.out _ _ OE.out, Lib.hid TE.out, Lib.hid (HBT.out.step KE.out (fun k hk q => HPO.out k hk q)), HNE.out _ _ OE.out⟩
        case measure => simp [intOf]; omega

      exact AllReadyH.nil
    · obtain rfl : n = j := by omega
      have HPL : Hid ((pathK L n x).length = n ∧ H32 (pathK L n x)) := Lib.hid ⟨pathK_length L n x, fun z hz => by
        simp only [pathK, List.mem_map, List.mem_range] at hz
        obtain ⟨i, hi, rfl⟩ := hz
        exact getD_32 (HVr.out.list (show i < 7 by omega)) (by rw [rowB_length HLL.out i (by omega)]; exact path_lt HX.out.1 hi)⟩
      obtain ⟨A, c, hA, hI⟩ := hin_own (n := n) HPL.out.2 HPL.out.1 (by have := OWN.out; rwa [List.take_of_length_le (Nat.le_of_eq HPL.out.1)] at this)
      subst hA
      have HI := Lib.hid hI
      have hsv := HSV.out
      have hs2 := B5.out.size
      have hgg := HG.out
      have hs1 := B1.out.size
      have hs12 := BT2.out.size
      have RZr : Hid (wr.heap[w.heap.size]? = some (.cells #[.int .i64 0, .slice none 0 0, .slice none 0 0] 26 (0, 0))) := Lib.hid (
        (HB5.out.block _ (by omega)).trans ((B5.out.block _ (by omega)).trans ((BT2.out.same _ (by omega) (by omega)).trans ((B1.out.block _ (by omega)).trans RZ.out))))
      have HI6 := Lib.hid (HI5.out.below (by rw [hgg]; exact HB5.out))
      have HBB : Hid (But (· = b) w wr) := Lib.hid ((((But.of_below (B := w.heap.size) (S := (· = b)) HBv.out (fun k h1 h2 => absurd h1 (by omega))).step (But.of_below (B := wv.heap.size) (S := (· = b)) B1.out (fun k h1 h2 => absurd h1 (by omega))) (fun _ _ q => q)).step BT2.out (fun _ _ q => q)).step ((But.of_below (B := w2.heap.size) (S := (· = b)) B5.out (fun k h1 h2 => absurd h1 (by omega))).step (But.of_below (B := G) (S := (· = b)) HB5.out (fun k h1 h2 => absurd h1 (by omega))) (fun _ _ q => q)) (fun _ _ q => q))
      obtain ⟨sv, hsv9⟩ : ∃ y : Array Value, #[.int .i64 x, .slice (some ⟨G0, 0, none⟩) 67 67, (.slice A n c)] = y := ⟨_, rfl⟩
      have Zsv : Hid (sv.size = 3) := Lib.hid (by rw [← hsv9]; rfl)
      have Isv : Hid ((Tryz.prog.info? 26).map (·.size) = some sv.size) := Lib.hid (by rw [Zsv.out]; kernel_rfl)
      have Osv : Hid (sv.all (·.oneCell') = true) := Lib.hid (by rw [← hsv9]; simp [Value.oneCell'])
      have HRS : Hid (wr.heap[G]? = some (.cells sv 26 (0, 0))) := Lib.hid (by rw [← hsv9]; exact HR.out)
      have HSV9 := Lib.hid hsv9
      clear hsv9 hI
      go_wp2_with (first
        | (refine wpList_load_row rfl 26 _ rfl G rfl 26 sv (0, 0) _ HRS.out Tryz.underlying26 rfl Isv.out ?_)
        | (refine wpList_store_row_any rfl 26 _ _ rfl w.heap.size sv rfl rfl 26 _ RZr.out Isv.out (by rw [Zsv.out]; rfl) Osv.out ?_; intro w8 hbN hgN hsN; have B8 := Lib.hid hbN; have R8 := Lib.hid hgN; clear hbN hgN hsN))
      have HBF : Hid (But (· = b) w w8) := Lib.hid (HBB.out.step B8.out (fun k hk q => by omega))
      refine bodyPost_ret (v := .tuple #[.agg sv, .nilIface]) (results_row_tmp rfl _ _ w.heap.size 26 sv (0, 0) _ rfl R8.out Tryz.underlying26 rfl Isv.out _ rfl) rfl ⟨G0, A, c, by rw [← HSV9.out], ?_, ?_, ⟨ys5, ?_⟩, ⟨hashCells ((pathK L n x).take n), ?_⟩, ?_, ?_, ?_⟩
      · have hb4 := B4.out.size
        have hg0 := HG0.out
        obtain ⟨q1, q2, q3, q4, q5⟩ := HI6.out
        refine ⟨q1, q2, q3, q4, ?_⟩
        rcases q5 with q | ⟨g, o, e, r⟩
        · exact .inl q
        · cases e
          refine .inr ⟨_, _, rfl, rangeAt_block (B8.out.same G0 (rangeAt_lt r (hashCells_ne q1 (fun e => ?_))) (by omega)) r⟩
          rw [e] at q2; cases q2
      · have hown := own_keep_ne (b := w.heap.size) (fun k y hk hy => (B8.out.same k (Array.getElem?_eq_some_iff.1 hy).1 hk).trans hy) OWN.out (fun q => by have := HLT.out _ q; omega)
        rw [List.take_of_length_le (Nat.le_of_eq HPL.out.1)] at hown
        obtain ⟨A2, c2, e, h2⟩ := hin_own (n := n) HPL.out.2 HPL.out.1 hown
        cases e
        exact h2
      · have hb4 := B4.out.size
        have hg0 := HG0.out
        have hg5 := HG.out
        have o9 := own_below (own_mono HO5.out (base' := w.heap.size) (by have := HBv.out.size; omega)) HB5.out (by omega)
        exact own_keep_ne (w := wr) (b := w.heap.size) (fun k y hk hy => (B8.out.same k (Array.getElem?_eq_some_iff.1 hy).1 hk).trans hy) o9 (fun q => by have q2 : G0 = w.heap.size := (by simpa [Value.ownBlock] using q); omega)
      · exact own_mono (own_keep_ne (w := wr) (b := w.heap.size) (fun k y hk hy => (B8.out.same k (Array.getElem?_eq_some_iff.1 hy).1 hk).trans hy) OWN.out (fun q => by have := HLT.out _ q; omega)) (by omega)
      · intro q
        have h1 := (HO5.out.lt G0 rfl).2
        have h2 := HLT.out G0 q.symm
        omega
      · exact ⟨HV0.out.sec, HV0.out.s32, (B8.out.same b (by omega) (by omega)).trans HVr.out.row, HV0.out.len, fun j hj => by
          obtain ⟨u, h1, h2⟩ := HV0.out.rows j hj
          exact ⟨u, h1, h2.step HBF.out⟩⟩
      · exact HBF.out
theorem ksign_ok (b : Nat) (s : List UInt8) (L : List (List UInt8)) (n x : Nat) (v0 : Array Value) (ls : List Value) (t : ByteArray) (w : World) (h : KAt w b s (rowB L) n x v0 ls) (hn : n ≤ 6) (hL : L.length = 2 ^ n) (hx : x < 2 ^ n) (hs : s.length = 32) (ht : t.size ≤ 9223372036854775807) (hK : KTab 17 w) (hkb : b ≠ 17) :
    Calls Tryz.prog 16 #[.pointer (some ⟨b, 0, none⟩), .string t] w fun ev w' => ∃ G0 A c, ev = .returned (.tuple #[.agg #[.int .i64 x, .slice (some ⟨G0, 0, none⟩) 67 67, .slice A n c], .nilIface]) ∧ HIn w' (some ⟨G0, 0, none⟩) 67 67 (sigB (ownB s x) (msgB x (bOf t))) ∧ HIn w' A n c (pathK L n x) ∧ KAt w' b s (rowB L) n (x + 1) v0 ls ∧ But (· = b) w w' := 
  (ksign_own b s L n x v0 ls t w h hn hL hx hs ht hK hkb).mono fun _ _ ⟨G0, A, c, h1, h2, h3, _, _, _, h4, h5⟩ => ⟨G0, A, c, h1, h2, h3, h4, h5⟩

end Go.Proofs.YtnpblpbcchminaaGreatDoor
