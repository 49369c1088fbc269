/- cartularylaw23.KeysBack. Condition: the table reads as listed. -/
import Derived.Test.YtnpblpbcchminaaDoorBeyond
import Derived.Test.YtnpblpbcchminaaDoorKeysEncAny
import Derived.Test.YtnpblpbcchminaaDoorKeysBytes
import Derived.Test.YtnpblpbcchminaaDoorSignedArg
namespace Go.Proofs.YtnpblpbcchminaaDoor
open Go.ChangeShapes Go.WideShapes Go.ChangeAt Go.RowKit
set_option linter.unusedVariables false
theorem beyond3 (x0 x1 x2 : Nat) (w : World) (hx0 : x0 ≤ 9000000000000000000) (hx1 : x1 ≤ 9000000000000000000) (hx2 : x2 ≤ 9000000000000000000) :
    Calls Tryd.prog 15 #[.slice (some ⟨w.heap.size, 0, none⟩) 3 3] (w.alloc (.cells #[.int .i64 (x0 : Nat), .int .i64 (x1 : Nat), .int .i64 (x2 : Nat)] 3)) fun ev w' => ev = .returned (.bool (decide (1048576 < x0 + x1 + x2))) ∧ w' = (w.alloc (.cells #[.int .i64 (x0 : Nat), .int .i64 (x1 : Nat), .int .i64 (x2 : Nat)] 3)) := by
  have := beyond_any [x0, x1, x2] w.heap.size 3 3 (w.alloc (.cells #[.int .i64 (x0 : Nat), .int .i64 (x1 : Nat), .int .i64 (x2 : Nat)] 3)) rfl (by simp; omega) (fun j x hj => by
    refine cell_new _ _ _ _ ?_
    match j, hj with
    | 0, hj => simp at hj; subst hj; rfl
    | 1, hj => simp at hj; subst hj; rfl
    | 2, hj => simp at hj; subst hj; rfl
    | j + 3, hj => simp at hj) (by omega)
  have hs : [x0, x1, x2].sum = x0 + x1 + x2 := by simp <;> omega
  rw [hs] at this
  exact this.mono (fun _ _ h => ⟨h.1, h.2.symm⟩)
set_option maxRecDepth 100000 in
set_option maxHeartbeats 8000000 in
theorem kback_any (a : Nat → Addr) (x : Int) (m n : Nat) (A A2 : Option Addr) (c c2 : Nat) (C P : List (List UInt8)) (b : ByteArray) (w : World) (hE : Env w.heap.size a w) (hC : HIn w A m c C) (hP : HIn w A2 n c2 P) (hm9 : m ≤ 9000000000000000000) (hn9 : n ≤ 9000000000000000000) (hb9 : b.size ≤ 9000000000000000000) :
    Calls Tryd.prog 4 #[.agg #[.int .i64 x, .slice A m c, .slice A2 n c2], .string b] w fun e w' => e = .returned (.bool true) ∧ Below w.heap.size w w' := by
  obtain ⟨sv, hsv9⟩ : ∃ y : Array Value, #[.int .i64 x, .slice A m c, .slice A2 n c2] = y := ⟨_, rfl⟩
  have Zsv : Hid (sv.size = 3) := Lib.hid (by rw [← hsv9]; rfl)
  have Isv : Hid ((Tryd.prog.info? 35).map (·.size) = some sv.size) := Lib.hid (by rw [Zsv.out]; kernel_rfl)
  obtain ⟨wv, hwv⟩ : ∃ y9 : World, (w.alloc (.cells sv 35)) = y9 := ⟨_, rfl⟩
  have HBv : Hid (Below w.heap.size w wv) := Lib.hid (by rw [← hwv]; exact ((Below.refl _ _).alloc (by simp <;> omega) _))
  have HSV : Hid (wv.heap.size = w.heap.size + 1) := Lib.hid (by rw [← hwv]; simp)
  have RS : Hid (wv.heap[w.heap.size]? = some (.cells sv 35 (0, 0))) := Lib.hid (by rw [← hwv]; exact heap_at _ _ _ (by simp <;> omega))
  have HWV := Lib.hid hwv
  have hsvv := HSV.out
  have RS0 := RS.out
  rw [← hsv9] at RS0
  have z1 : wv.cell? ⟨w.heap.size, 1, none⟩ = some (.slice A m c) := (cell_of_row wv _ 1 _ 35 (0, 0) RS0).trans rfl
  have z2 : wv.cell? ⟨w.heap.size, 2, none⟩ = some (.slice A2 n c2) := (cell_of_row wv _ 2 _ 35 (0, 0) RS0).trans rfl
  have HE := Lib.hid hE
  have HC0 := Lib.hid hC
  have HP0 := Lib.hid hP
  have Hsv9 : Hid (sv = #[.int .i64 x, .slice A m c, .slice A2 n c2]) := Lib.hid hsv9.symm
  have hby := beyond3 m n b.size wv hm9 hn9 hb9
  rw [hsvv] at hby
  have HBY := Lib.hid hby
  clear hby
  have HLV : Hid (∀ w', Below w.heap.size w w' → Calls Tryd.prog 14 #[] w' fun ev w2 => ev = .returned (.bool true) ∧ Below w'.heap.size w' w2) := Lib.hid (fun w' hb => lives23_any a w.heap.size w' (HE.out.step hb))
  have HDC : Hid (∀ w', Below w.heap.size w w' → Calls Tryd.prog 17 #[.string b] w' fun ev w2 => (((decS b).ok b ∧ DecOk w'.heap.size w2 b (decS b) ev) ∨ (¬ (decS b).ok b ∧ ev = .returned (.tuple #[.agg #[.int .i64 0, .slice none 0 0, .slice none 0 0], errV a 3]))) ∧ Below w'.heap.size w' w2) := Lib.hid (fun w' hb => dec_any a w.heap.size b w' (HE.out.step hb) (by omega))
  rw [hsv9]
  clear hwv hsv9 hE hC hP RS0
  go_enter Tryd.func4, Tryd.ntmps4
  go_upto_region 1 with fail
  rw [HWV.out]
  go_wp2_with fail
  refine HBY.out.mono ?_
  rintro ev w0 ⟨rfl, rfl⟩
  obtain ⟨w1, hw1⟩ : ∃ y, wv.alloc (.cells #[.int .i64 (m : Nat), .int .i64 (n : Nat), .int .i64 (b.size : Nat)] 3) = y := ⟨_, rfl⟩
  have B1 : Hid (Below w.heap.size w w1) := Lib.hid (by rw [← hw1]; exact HBv.out.alloc HBv.out.size _)
  have RS1 : Hid (w1.heap[w.heap.size]? = some (.cells sv 35 (0, 0))) := Lib.hid (by rw [← hw1]; exact (((Below.refl wv.heap.size wv).alloc (Nat.le_refl _) _).block _ (by omega)).trans RS.out)
  rw [hw1]
  clear hw1 z1 z2
  by_cases hg : 1048576 < m + n + b.size
  · rw [show decide (1048576 < m + n + b.size) = true from decide_eq_true hg]
    go_wp2_with fail
    go_ret
    exact ⟨rfl, B1.out⟩
  · rw [show decide (1048576 < m + n + b.size) = false from decide_eq_false hg]
    have hmm : m ≤ 1048576 := by omega
    have hnn : n ≤ 1048576 := by omega
    clear hg hm9 hn9 hb9
    by_cases hmay : 0 ≤ x ∧ x < 64 ∧ m = 67 ∧ n ≤ 6
    · obtain ⟨hx0, hx64, rfl, hn6⟩ := hmay
      obtain ⟨X, rfl⟩ := Int.eq_ofNat_of_zero_le hx0
      have hX : X < 64 := by omega
      obtain ⟨p0, hp0⟩ : ∃ p0 : ByteArray, ⟨(encB X C n P).toArray⟩ = p0 := ⟨_, rfl⟩
      have hpb : bOf p0 = encB X C n P := by rw [← hp0]; simp [bOf]
      have HPB := Lib.hid (dec_enc hX hn6 HC0.out.1 HC0.out.2.1 HP0.out.1 HP0.out.2.1 hpb)
      have hpz : p0.size ≤ 9223372036854775807 := by
        have h1 : p0.size = (encB X C n P).length := by rw [← hpb, bOf_length]
        have h2 := flat_eq HC0.out.1
        have h3 := flat_eq HP0.out.1
        rw [HC0.out.2.1] at h2
        rw [HP0.out.2.1] at h3
        rw [h1]
        simp only [encB, List.length_append, List.length_cons, List.length_nil, h2, h3]
        omega
      have HEN : Hid (Calls Tryd.prog 16 #[.agg sv] w1 fun ev w' => ev = .returned (.tuple #[.string p0, .nilIface]) ∧ Below w1.heap.size w1 w') := Lib.hid (by
        have := enc_ok X n A A2 c c2 C P w1 hX hn6 (HC0.out.below B1.out) (HP0.out.below B1.out)
        rw [hp0] at this
        rw [Hsv9.out]; exact this)
      have HDP : Hid (∀ w', Below w.heap.size w w' → Calls Tryd.prog 17 #[.string p0] w' fun ev w2 => (((decS p0).ok p0 ∧ DecOk w'.heap.size w2 p0 (decS p0) ev) ∨ (¬ (decS p0).ok p0 ∧ ev = .returned (.tuple #[.agg #[.int .i64 0, .slice none 0 0, .slice none 0 0], errV a 3]))) ∧ Below w'.heap.size w' w2) := Lib.hid (fun w' hb => dec_any a w.heap.size p0 w' (HE.out.step hb) hpz)
      clear hp0 hpb hpz hx0 hx64
      go_wp2_with (refine wpList_load_row rfl 35 _ rfl w.heap.size rfl 35 sv (0, 0) _ RS1.out Tryd.underlying35 rfl Isv.out ?_)
      refine HEN.out.mono ?_
      rintro ev w2 ⟨rfl, b2⟩
      have B2 := Lib.hid (B1.out.trans (b2.mono B1.out.size))
      have RS2 := Lib.hid ((b2.block _ (Array.getElem?_eq_some_iff.1 RS1.out).1).trans RS1.out)
      clear b2
      go_wp2_with fail
      refine (HDP.out w2 B2.out).mono ?_
      rintro ev w3 ⟨h3, b3⟩
      have B3 := Lib.hid (B2.out.trans (b3.mono B2.out.size))
      have RS3 := Lib.hid ((b3.block _ (Array.getElem?_eq_some_iff.1 RS2.out).1).trans RS2.out)
      clear b3
      rcases h3 with ⟨hok, G, cs, v, hG, rfl, hF, hg, hown, hne⟩ | ⟨hno, rfl⟩
      · have hC := hF.hin (fun i => hsS_length _ _ i) hg (by omega)
        obtain ⟨A9, c9, hA, hI⟩ := hin_own (n := (decS p0).n) (l := (List.range (decS p0).n).map (hsS p0 (decS p0).o3)) (fun z hz => by
          obtain ⟨k, -, rfl⟩ := List.mem_map.1 hz
          exact hsS_length _ _ _) (by simp) hown
        subst hA

        obtain ⟨-, e1, e2, e3, e4⟩ := HPB.out
        rw [e3] at hC
        rw [e2, e4] at hI
        rw [e1, e2]
        obtain ⟨sv3, hsv39⟩ : ∃ y : Array Value, #[.int .i64 X, .slice (some ⟨G, 0, none⟩) 67 67, .slice A9 n c9] = y := ⟨_, rfl⟩
        have Zsv3 : Hid (sv3.size = 3) := Lib.hid (by rw [← hsv39]; rfl)
        have Isv3 : Hid ((Tryd.prog.info? 35).map (·.size) = some sv3.size) := Lib.hid (by rw [Zsv3.out]; kernel_rfl)
        have Osv3 : Hid (sv3.all (·.oneCell') = true) := Lib.hid (by rw [← hsv39]; simp [Value.oneCell'])
        have Hsv39 := Lib.hid hsv39

        have HC := Lib.hid hC
        have HI := Lib.hid hI
        rw [hsv39]
        clear hsv39 hC hI e1 e2 e3 e4 hok hF hg hown hne hG
        go_upto_region 6 with (refine wpList_store_row_any rfl 35 _ _ rfl w3.heap.size sv3 rfl rfl 35 _ (heap_at _ _ _ rfl) Isv3.out (by rw [Zsv3.out]; rfl) Osv3.out ?_; intro w4 hbN hgN hsN; have B5 : Hid (Below w3.heap.size w3 w4) := Lib.hid (((Below.refl _ w3).alloc (Nat.le_refl _) _).trans (hbN.to_below (by simp) (fun k hk q => by omega))); have R5 := Lib.hid hgN; clear hbN hgN hsN)
        have B4 := Lib.hid (B3.out.trans (B5.out.mono B3.out.size))
        have RS4 := Lib.hid ((B5.out.block _ (Array.getElem?_eq_some_iff.1 RS3.out).1).trans RS3.out)
        have HSY : Hid (Calls Tryd.prog 11 #[.agg sv3, .agg sv] w4 fun ev w2 => ev = .returned (.bool true) ∧ Below w4.heap.size w4 w2) := Lib.hid (by
          have := same_yes X 67 n (some ⟨G, 0, none⟩) A9 A A2 67 c9 c c2 C P w4 (by omega) (by omega) (HC.out.below B5.out) (HI.out.below B5.out) (HC0.out.below B4.out) (HP0.out.below B4.out)
          rw [Hsv39.out, show (#[.int .i64 ((X : Nat) : Int), .slice A 67 c, .slice A2 n c2] : Array Value) = sv from Hsv9.out.symm] at this
          exact this)
        go_wp2_with (first | (refine wpList_load_row_g rfl 35 _ rfl w3.heap.size rfl 35 sv3 (0, 0) _ R5.out Tryd.underlying35 rfl Isv3.out ?_) | (refine wpList_load_row_g rfl 35 _ rfl w.heap.size rfl 35 sv (0, 0) _ RS4.out Tryd.underlying35 rfl Isv.out ?_))
        refine HSY.out.mono ?_
        rintro ev w5 ⟨rfl, b5⟩
        have BK := Lib.hid (B4.out.trans (b5.mono B4.out.size))
        clear b5
        go_wp2_with fail
        refine (HDC.out w5 BK.out).mono ?_
        rintro ev w14 ⟨h14, b14⟩
        have B14 : Hid (Below w.heap.size w w14) := Lib.hid (BK.out.trans (b14.mono BK.out.size))
        clear b14
        rcases h14 with ⟨hok, G, cs, v, hG, rfl, hF, hg, hown, hne⟩ | ⟨hno, rfl⟩
        · have hC := hF.hin (fun i => hsS_length _ _ i) hg (by omega)
          obtain ⟨A9, c9, hA, hI⟩ := hin_own (n := (decS b).n) (l := (List.range (decS b).n).map (hsS b (decS b).o3)) (fun z hz => by
            obtain ⟨k, -, rfl⟩ := List.mem_map.1 hz
            exact hsS_length _ _ _) (by simp) hown
          subst hA
          have hbe := enc_dec hok
          obtain ⟨hk4, hk6, hk64⟩ := hok
          obtain ⟨x9, hx9⟩ : ∃ x9, (decS b).i = x9 := ⟨_, rfl⟩
          obtain ⟨n9, hn9⟩ : ∃ n9, (decS b).n = n9 := ⟨_, rfl⟩
          obtain ⟨C9, hC9⟩ : ∃ C9, (List.range 67).map (hsS b (decS b).o1) = C9 := ⟨_, rfl⟩
          obtain ⟨P9, hP9⟩ : ∃ P9, (List.range (decS b).n).map (hsS b (decS b).o3) = P9 := ⟨_, rfl⟩
          rw [hC9, hP9, hx9, hn9] at hbe
          rw [hC9] at hC
          rw [hP9] at hI
          rw [hn9] at hI hk6 ⊢
          rw [hx9] at hk64 ⊢
          have hbs := of_bytes hbe
          obtain ⟨sv2, hsv29⟩ : ∃ y : Array Value, #[.int .i64 x9, .slice (some ⟨G, 0, none⟩) 67 67, .slice A9 n9 c9] = y := ⟨_, rfl⟩
          have Zsv2 : Hid (sv2.size = 3) := Lib.hid (by rw [← hsv29]; rfl)
          have Isv2 : Hid ((Tryd.prog.info? 35).map (·.size) = some sv2.size) := Lib.hid (by rw [Zsv2.out]; kernel_rfl)
          have Osv2 : Hid (sv2.all (·.oneCell') = true) := Lib.hid (by rw [← hsv29]; simp [Value.oneCell'])
          have Hsv29 := Lib.hid hsv29
          have HC := Lib.hid hC
          have HI := Lib.hid hI
          have HBS := Lib.hid hbs
          have HK := Lib.hid (And.intro hk64 hk6)
          rw [hsv29]
          clear hsv29 hC hI hbs hk64 hk6 hk4 hbe hx9 hn9 hC9 hP9 hF hg hown hne hG
          go_upto_region 11 with (refine wpList_store_row_any rfl 35 _ _ rfl w14.heap.size sv2 rfl rfl 35 _ (heap_at _ _ _ rfl) Isv2.out (by rw [Zsv2.out]; rfl) Osv2.out ?_; intro w15 hbN hgN hsN; have B5 : Hid (Below w14.heap.size w14 w15) := Lib.hid (((Below.refl _ w14).alloc (Nat.le_refl _) _).trans (hbN.to_below (by simp) (fun k hk q => by omega))); have R5 := Lib.hid hgN; clear hbN hgN hsN)
          have BF5 := Lib.hid (B14.out.trans (B5.out.mono B14.out.size))
          have HEN : Hid (Calls Tryd.prog 16 #[.agg sv2] w15 fun ev w' => ev = .returned (.tuple #[.string b, .nilIface]) ∧ Below w15.heap.size w15 w') := Lib.hid (by
            have := enc_ok x9 n9 (some ⟨G, 0, none⟩) A9 67 c9 C9 P9 w15 HK.out.1 HK.out.2 (HC.out.below B5.out) (HI.out.below B5.out)
            rw [Hsv29.out, ← HBS.out] at this; exact this)
          go_wp2_with (refine wpList_load_row rfl 35 _ rfl w14.heap.size rfl 35 sv2 (0, 0) _ R5.out Tryd.underlying35 rfl Isv2.out ?_)
          refine HEN.out.mono ?_
          rintro ev w16 ⟨rfl, b16⟩
          have B16 := Lib.hid (BF5.out.trans (b16.mono BF5.out.size))
          clear b16
          go_wp2_with fail
          refine (HLV.out w16 B16.out).mono ?_
          rintro ev w19 ⟨rfl, b19⟩
          have B19 := Lib.hid (B16.out.trans (b19.mono B16.out.size))
          clear b19
          go_wp2_with fail
          go_ret
          exact ⟨rfl, B19.out⟩
        · go_upto_region 11 with fail
          obtain ⟨w15, hw15⟩ : ∃ y : World, w14.alloc (.cells #[.int .i64 0, .slice none 0 0, .slice none 0 0] 35) = y := ⟨_, rfl⟩
          have B5 : Hid (Below w14.heap.size w14 w15) := Lib.hid (by rw [← hw15]; exact (Below.refl _ _).alloc (Nat.le_refl _) _)
          obtain ⟨zv, hzv⟩ : ∃ y : Array Value, #[.int .i64 0, .slice none 0 0, .slice none 0 0] = y := ⟨_, rfl⟩
          have R5 : Hid (w15.heap[w14.heap.size]? = some (.cells zv 35 (0, 0))) := Lib.hid (by rw [← hw15, ← hzv]; exact heap_at _ _ _ rfl)
          have Izv : Hid ((Tryd.prog.info? 35).map (·.size) = some zv.size) := Lib.hid (by rw [← hzv]; kernel_rfl)
          obtain ⟨G5, hG5⟩ : ∃ y, w14.heap.size = y := ⟨_, rfl⟩
          have BF5 := Lib.hid (B14.out.trans (B5.out.mono B14.out.size))
          have HE5 := Lib.hid (HE.out.step BF5.out)
          have HIS : Hid (Calls Tryd.prog 10 #[errV a 3, .int .i64 3] w15 fun ev w2 => ev = .returned (.bool true) ∧ Below w15.heap.size w15 w2) := Lib.hid (is_sent a w.heap.size 3 w15 HE5.out.laid (by omega) (by omega))
          have HSS : Hid (∀ w', Calls Tryd.prog 11 #[.agg zv, .agg #[.int .i64 0, .slice none 0 0, .slice none 0 0]] w' fun ev w2 => ev = .returned (.bool true) ∧ Below w'.heap.size w' w2) := Lib.hid (fun w' => by
            have := same_zero w'
            rw [hzv] at this ⊢; exact this)
          rw [hw15, hG5]
          rw [hG5] at R5
          unfold errV at HIS ⊢
          clear hw15 hzv hG5
          go_wp2_with fail
          refine HIS.out.mono ?_
          rintro ev w16 ⟨rfl, b16⟩
          have B16 := Lib.hid (BF5.out.trans (b16.mono BF5.out.size))
          have R6 := Lib.hid ((b16.block _ (Array.getElem?_eq_some_iff.1 R5.out).1).trans R5.out)
          clear b16
          go_wp2_with (refine wpList_load_row_g rfl 35 _ rfl G5 rfl 35 zv (0, 0) _ R6.out Tryd.underlying35 rfl Izv.out ?_)
          refine (HSS.out w16).mono ?_
          rintro ev w17 ⟨rfl, b17⟩
          have B17 := Lib.hid (B16.out.trans (b17.mono B16.out.size))
          clear b17
          go_wp2_with fail
          refine (HLV.out w17 B17.out).mono ?_
          rintro ev w19 ⟨rfl, b19⟩
          have B19 := Lib.hid (B17.out.trans (b19.mono B17.out.size))
          clear b19
          go_wp2_with fail
          go_ret
          exact ⟨rfl, B19.out⟩
      · exact absurd HPB.out.1 hno
    · have HEN : Hid (Calls Tryd.prog 16 #[.agg sv] w1 fun ev w' => ev = .returned (.tuple #[.string ⟨#[]⟩, errV a 2]) ∧ Below w1.heap.size w1 w') := Lib.hid (by
        have := enc_bad a w.heap.size x m n A A2 c c2 w1 (HE.out.step B1.out) hmay
        rw [Hsv9.out]; exact this)
      have HIS : Hid (∀ w', Below w.heap.size w w' → Calls Tryd.prog 10 #[errV a 2, .int .i64 2] w' fun ev w2 => ev = .returned (.bool true) ∧ Below w'.heap.size w' w2) := Lib.hid (fun w' hb => is_sent a w.heap.size 2 w' (HE.out.step hb).laid (by omega) (by omega))
      unfold errV at HEN HIS
      clear hmay
      go_wp2_with (refine wpList_load_row rfl 35 _ rfl w.heap.size rfl 35 sv (0, 0) _ RS1.out Tryd.underlying35 rfl Isv.out ?_)
      refine HEN.out.mono ?_
      rintro ev w2 ⟨rfl, b2⟩
      have B2 := Lib.hid (B1.out.trans (b2.mono B1.out.size))
      clear b2
      go_wp2_with fail
      refine (HIS.out w2 B2.out).mono ?_
      rintro ev w3 ⟨rfl, b3⟩
      have BK := Lib.hid (B2.out.trans (b3.mono B2.out.size))
      clear b3
      go_wp2_with fail
      refine (HDC.out w3 BK.out).mono ?_
      rintro ev w14 ⟨h14, b14⟩
      have B14 : Hid (Below w.heap.size w w14) := Lib.hid (BK.out.trans (b14.mono BK.out.size))
      clear b14
      rcases h14 with ⟨hok, G, cs, v, hG, rfl, hF, hg, hown, hne⟩ | ⟨hno, rfl⟩
      · have hC := hF.hin (fun i => hsS_length _ _ i) hg (by omega)
        obtain ⟨A9, c9, hA, hI⟩ := hin_own (n := (decS b).n) (l := (List.range (decS b).n).map (hsS b (decS b).o3)) (fun z hz => by
          obtain ⟨k, -, rfl⟩ := List.mem_map.1 hz
          exact hsS_length _ _ _) (by simp) hown
        subst hA
        have hbe := enc_dec hok
        obtain ⟨hk4, hk6, hk64⟩ := hok
        obtain ⟨x9, hx9⟩ : ∃ x9, (decS b).i = x9 := ⟨_, rfl⟩
        obtain ⟨n9, hn9⟩ : ∃ n9, (decS b).n = n9 := ⟨_, rfl⟩
        obtain ⟨C9, hC9⟩ : ∃ C9, (List.range 67).map (hsS b (decS b).o1) = C9 := ⟨_, rfl⟩
        obtain ⟨P9, hP9⟩ : ∃ P9, (List.range (decS b).n).map (hsS b (decS b).o3) = P9 := ⟨_, rfl⟩
        rw [hC9, hP9, hx9, hn9] at hbe
        rw [hC9] at hC
        rw [hP9] at hI
        rw [hn9] at hI hk6 ⊢
        rw [hx9] at hk64 ⊢
        have hbs := of_bytes hbe
        obtain ⟨sv2, hsv29⟩ : ∃ y : Array Value, #[.int .i64 x9, .slice (some ⟨G, 0, none⟩) 67 67, .slice A9 n9 c9] = y := ⟨_, rfl⟩
        have Zsv2 : Hid (sv2.size = 3) := Lib.hid (by rw [← hsv29]; rfl)
        have Isv2 : Hid ((Tryd.prog.info? 35).map (·.size) = some sv2.size) := Lib.hid (by rw [Zsv2.out]; kernel_rfl)
        have Osv2 : Hid (sv2.all (·.oneCell') = true) := Lib.hid (by rw [← hsv29]; simp [Value.oneCell'])
        have Hsv29 := Lib.hid hsv29
        have HC := Lib.hid hC
        have HI := Lib.hid hI
        have HBS := Lib.hid hbs
        have HK := Lib.hid (And.intro hk64 hk6)
        rw [hsv29]
        clear hsv29 hC hI hbs hk64 hk6 hk4 hbe hx9 hn9 hC9 hP9 hF hg hown hne hG
        go_upto_region 11 with (refine wpList_store_row_any rfl 35 _ _ rfl w14.heap.size sv2 rfl rfl 35 _ (heap_at _ _ _ rfl) Isv2.out (by rw [Zsv2.out]; rfl) Osv2.out ?_; intro w15 hbN hgN hsN; have B5 : Hid (Below w14.heap.size w14 w15) := Lib.hid (((Below.refl _ w14).alloc (Nat.le_refl _) _).trans (hbN.to_below (by simp) (fun k hk q => by omega))); have R5 := Lib.hid hgN; clear hbN hgN hsN)
        have BF5 := Lib.hid (B14.out.trans (B5.out.mono B14.out.size))
        have HEN : Hid (Calls Tryd.prog 16 #[.agg sv2] w15 fun ev w' => ev = .returned (.tuple #[.string b, .nilIface]) ∧ Below w15.heap.size w15 w') := Lib.hid (by
          have := enc_ok x9 n9 (some ⟨G, 0, none⟩) A9 67 c9 C9 P9 w15 HK.out.1 HK.out.2 (HC.out.below B5.out) (HI.out.below B5.out)
          rw [Hsv29.out, ← HBS.out] at this; exact this)
        go_wp2_with (refine wpList_load_row rfl 35 _ rfl w14.heap.size rfl 35 sv2 (0, 0) _ R5.out Tryd.underlying35 rfl Isv2.out ?_)
        refine HEN.out.mono ?_
        rintro ev w16 ⟨rfl, b16⟩
        have B16 := Lib.hid (BF5.out.trans (b16.mono BF5.out.size))
        clear b16
        go_wp2_with fail
        refine (HLV.out w16 B16.out).mono ?_
        rintro ev w19 ⟨rfl, b19⟩
        have B19 := Lib.hid (B16.out.trans (b19.mono B16.out.size))
        clear b19
        go_wp2_with fail
        go_ret
        exact ⟨rfl, B19.out⟩
      · go_upto_region 11 with fail
        obtain ⟨w15, hw15⟩ : ∃ y : World, w14.alloc (.cells #[.int .i64 0, .slice none 0 0, .slice none 0 0] 35) = y := ⟨_, rfl⟩
        have B5 : Hid (Below w14.heap.size w14 w15) := Lib.hid (by rw [← hw15]; exact (Below.refl _ _).alloc (Nat.le_refl _) _)
        obtain ⟨zv, hzv⟩ : ∃ y : Array Value, #[.int .i64 0, .slice none 0 0, .slice none 0 0] = y := ⟨_, rfl⟩
        have R5 : Hid (w15.heap[w14.heap.size]? = some (.cells zv 35 (0, 0))) := Lib.hid (by rw [← hw15, ← hzv]; exact heap_at _ _ _ rfl)
        have Izv : Hid ((Tryd.prog.info? 35).map (·.size) = some zv.size) := Lib.hid (by rw [← hzv]; kernel_rfl)
        obtain ⟨G5, hG5⟩ : ∃ y, w14.heap.size = y := ⟨_, rfl⟩
        have BF5 := Lib.hid (B14.out.trans (B5.out.mono B14.out.size))
        have HE5 := Lib.hid (HE.out.step BF5.out)
        have HIS : Hid (Calls Tryd.prog 10 #[errV a 3, .int .i64 3] w15 fun ev w2 => ev = .returned (.bool true) ∧ Below w15.heap.size w15 w2) := Lib.hid (is_sent a w.heap.size 3 w15 HE5.out.laid (by omega) (by omega))
        have HSS : Hid (∀ w', Calls Tryd.prog 11 #[.agg zv, .agg #[.int .i64 0, .slice none 0 0, .slice none 0 0]] w' fun ev w2 => ev = .returned (.bool true) ∧ Below w'.heap.size w' w2) := Lib.hid (fun w' => by
          have := same_zero w'
          rw [hzv] at this ⊢; exact this)
        rw [hw15, hG5]
        rw [hG5] at R5
        unfold errV at HIS ⊢
        clear hw15 hzv hG5
        go_wp2_with fail
        refine HIS.out.mono ?_
        rintro ev w16 ⟨rfl, b16⟩
        have B16 := Lib.hid (BF5.out.trans (b16.mono BF5.out.size))
        have R6 := Lib.hid ((b16.block _ (Array.getElem?_eq_some_iff.1 R5.out).1).trans R5.out)
        clear b16
        go_wp2_with (refine wpList_load_row_g rfl 35 _ rfl G5 rfl 35 zv (0, 0) _ R6.out Tryd.underlying35 rfl Izv.out ?_)
        refine (HSS.out w16).mono ?_
        rintro ev w17 ⟨rfl, b17⟩
        have B17 := Lib.hid (B16.out.trans (b17.mono B16.out.size))
        clear b17
        go_wp2_with fail
        refine (HLV.out w17 B17.out).mono ?_
        rintro ev w19 ⟨rfl, b19⟩
        have B19 := Lib.hid (B17.out.trans (b19.mono B17.out.size))
        clear b19
        go_wp2_with fail
        go_ret
        exact ⟨rfl, B19.out⟩
end Go.Proofs.YtnpblpbcchminaaDoor
