/- cartularyref01.Powers: the powers of two that a number is the sum of, the greatest first. No condition. -/
import Derived.Test.YtnddjadjmgfgnaaGreatDoorRows
import Derived.Test.YtnddjadjmgfgnaaGreatDoorBookMem
import Derived.Test.YtnddjadjmgfgnaaGreatDoorSumsPlain
import Derived.Test.YtnddjadjmgfgnaaGreatDoorRefPath
import Derived.Outline
namespace Go.Proofs.YtnddjadjmgfgnaaGreatDoor
open Go.ChangeShapes Go.WideShapes Go.ChangeAt Go.RowKit
set_option linter.unusedVariables false
theorem info_u64 : (Tryz.prog.info? 22).map (fun i => (i.zero, i.size, i.bytes)) = some (some (.int .u64 0), 1, 8) := by kernel_rfl
theorem lv_top {a n e : Nat} (hd : 2 ^ (e + 1) ∣ a) (h1 : 2 ^ e ≤ n - a) (h2 : n - a < 2 ^ (e + 1)) (hn : n < 2 ^ 64) : lvN a n = e := by
  have hp := Nat.two_pow_pos e
  have hb := blen_eq h1 h2
  unfold lvN
  split
  · rename_i h0
    have := tz_ge h0 (by omega) hd
    omega
  · omega
def powCells (l : List (Nat × Nat)) : List Value := l.map fun p => .int .u64 ((2 ^ p.1 : Nat) : Int)
def halfP (e : Nat) : Nat := if e = 0 then 0 else 2 ^ (e - 1)
structure PowRel (base N : Nat) (w : World) (e a : Nat) (O : List (Nat × Nat)) (r pp : Int) (lv : Value) (wr : World) : Prop where
  r : r = ((N - a : Nat) : Int)
  le : a ≤ N
  pp : pp = ((halfP e : Nat) : Int)
  dvd : 2 ^ e ∣ a
  lt : N - a < 2 ^ e
  len : O.length + e ≤ 64
  eq : coverL 128 0 N = O ++ coverL (128 - O.length) a N
  own : wr.ownsRow base 22 1 lv O.length (powCells O)
  below : Below base w wr
theorem halfP_succ (e : Nat) : halfP (e + 1) = 2 ^ e := by unfold halfP; simp
theorem halfP_half (e : Nat) : (2 ^ e) / 2 = halfP e := by
  cases e with
  | zero => rfl
  | succ k => rw [halfP_succ, Nat.pow_succ]; omega
theorem PowRel.skip {base N : Nat} {w wr : World} {e a : Nat} {O : List (Nat × Nat)} {r pp : Int} {lv : Value} (h : PowRel base N w (e + 1) a O r pp lv wr) (hlt : r < pp) : PowRel base N w e a O r (pp / 2) lv wr := by
  have h1 := h.r; have h2 := h.pp; rw [halfP_succ] at h2
  refine ⟨h.r, h.le, ?_, Nat.dvd_trans (Nat.pow_dvd_pow 2 (by omega)) h.dvd, by omega, by have := h.len; omega, h.eq, h.own, h.below⟩
  rw [h2, ← halfP_half]; rfl
theorem PowRel.take {base N : Nat} {w wr w3 : World} {e a : Nat} {O : List (Nat × Nat)} {r pp : Int} {lv lv' : Value} (h : PowRel base N w (e + 1) a O r pp lv wr) (hN : N < 2 ^ 64) (hge : pp ≤ r)
    (ho : w3.ownsRow base 22 1 lv' (O.length + 1) (powCells O ++ [.int .u64 pp])) (hb : Below base w w3) : PowRel base N w e (a + 2 ^ e) (O ++ [(e, a / 2 ^ e)]) (r - pp) (pp / 2) lv' w3 := by
  have h1 := h.r; have h2 := h.pp; rw [halfP_succ] at h2
  have h3 := h.lt; have h4 := h.le; have h5 := h.len
  have hp := Nat.two_pow_pos e
  have hp2 : 2 ^ (e + 1) = 2 * 2 ^ e := by rw [Nat.pow_succ]; omega
  have hge' : 2 ^ e ≤ N - a := by omega
  have hl := lv_top h.dvd hge' h3 hN
  have hda : 2 ^ e ∣ a := Nat.dvd_trans (Nat.pow_dvd_pow 2 (by omega)) h.dvd
  refine ⟨by omega, by omega, by rw [h2, ← halfP_half]; rfl, (Nat.dvd_add_iff_right hda).1 (Nat.dvd_refl _), by omega, by simp; omega, ?_, ?_, hb⟩
  · rw [h.eq]
    obtain ⟨f, hf⟩ : ∃ f, 128 - O.length = f + 1 := ⟨127 - O.length, by omega⟩
    rw [hf, coverL_step (by omega), hl, List.length_append, List.length_singleton, show 128 - (O.length + 1) = f by omega]; simp
  · exact own_congr ho (by simp) (by simp [powCells, h2])
set_option maxRecDepth 100000 in
set_option maxHeartbeats 2000000 in
theorem refpowers (N : Nat) (sz : Int) (w : World) (hN : sz = (N : Int)) (h2 : sz ≤ 9223372036854775808) :
    Calls Tryz.prog 24 #[.int .u64 sz] w (RefPost 22 1 w (coverL 128 0 N).length (powCells (coverL 128 0 N))) := by
  obtain ⟨i0, hi, hz0, hz1, hz2⟩ := info_parts info_u64
  have HN : Hid (N < 2 ^ 64) := Lib.hid (by omega)
  have HSZ := Lib.hid hN
  have hs0 : 0 ≤ sz := by omega
  clear hN
  go_enter Tryz.func24, Tryz.ntmps24
  go_wp2
  go_loopw [0, 3, 4] (fun n lv p wr => ∃ (e a : Nat) (O : List (Nat × Nat)) (r pp : Int), n = .int .u64 r ∧ p = .int .u64 pp ∧ 0 ≤ r ∧ r ≤ sz ∧ 0 ≤ pp ∧ pp ≤ 9223372036854775808 ∧ Hid (PowRel w.heap.size N w e a O r pp lv wr)) (fun _ _ p _ => (intOf p).toNat)
  case atStart => exact ⟨64, 0, [], sz, 9223372036854775808, rfl, rfl, by omega, by omega, by omega, by omega, Lib.hid ⟨by rw [HSZ.out]; rfl, by omega, rfl, Nat.dvd_zero _, by have := HN.out; omega, by simp, rfl, World.ownsRow_nil _ _ _ _, Below.refl _ _⟩⟩
  case round =>
    obtain ⟨e, a, O, r, pp, rfl, rfl, hr0, hr1, hp0, hp1, HR⟩ := hrel
    have hbs := HR.out.below.size
    have hol : O.length ≤ 64 := by have := HR.out.len; omega
    by_cases hpos : 0 < pp
    · obtain ⟨e0, rfl⟩ : ∃ e0, e = e0 + 1 := by
        cases e with
        | zero => exfalso; have h := HR.out.pp; have h9 : halfP 0 = 0 := rfl; omega
        | succ e0 => exact ⟨e0, rfl⟩
      by_cases hge : pp ≤ r
      · have own := HR.out.own
        go_wp2_with (at_builtin; refine wpList_append_lies _ rfl _ _ 72 rfl w.heap.size 22 i0 (.int .u64 0) 1 8 Tryz.underlying72 hi hz0 hz1 hz2 rfl (by decide) u3 _ _ rfl (own.alloc _) ⟨wr.heap.size, 0, none⟩ 1 1 _ rfl rfl (news_new _ _) (by simp [Value.oneCell']) (by decide) (by unfold maxLen; omega) (by omega) (by simp; omega) _ rfl ?_; intro g3 cap3 w3 hown3 hgrow3 hat3 hlt3)
        go_roundw
        case rel => exact ⟨e0, a + 2 ^ e0, O ++ [(e0, a / 2 ^ e0)], r - pp, pp / 2, rfl, rfl, by omega, by omega, by omega, by omega, Lib.hid (HR.out.take HN.out hge hown3 ((HR.out.below.alloc (by omega) _).grown hgrow3 (by simp; omega) (fun k hk => (own.lt k hk).1)))⟩
        case measure => simp [intOf]; omega
      · have hlt : r < pp := by omega
        clear hge
        go_wp2
        go_roundw
        case rel => exact ⟨e0, a, O, r, pp / 2, rfl, rfl, by omega, by omega, by omega, by omega, Lib.hid (HR.out.skip hlt)⟩
        case measure => simp [intOf]; omega
    · have HE : Hid (coverL 128 0 N = O) := Lib.hid (by
        have h1 := HR.out.pp
        have h2 : e = 0 := by
          cases e with
          | zero => rfl
          | succ e0 => rw [halfP_succ] at h1; have := Nat.two_pow_pos e0; omega
        subst h2
        have h3 := HR.out.lt
        have h4 := HR.out.le
        rw [HR.out.eq, coverL_done (by simp at h3; omega)]; simp)
      have HO := Lib.hid HR.out.own
      have HB := Lib.hid HR.out.below
      have hpz : pp = 0 := by omega
      clear hpos HR
      subst hpz
      go_wp2
      go_ret
      exact ⟨_, rfl, own_congr HO.out (by rw [HE.out]) (by rw [HE.out]), HB.out⟩
end Go.Proofs.YtnddjadjmgfgnaaGreatDoor
