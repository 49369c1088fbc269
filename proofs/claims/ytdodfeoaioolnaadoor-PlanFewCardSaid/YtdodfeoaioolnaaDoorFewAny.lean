import Derived.Test.YtdodfeoaioolnaaDoorTilesOk
import Derived.BigRegion
import Derived.Deep.DeepCutAuto
import Derived.Deep.RegionHeld
import Derived.Deep.MidRow
/- cartularylaw15.log, needs. No condition. -/
namespace Go.Proofs.YtdodfeoaioolnaaDoor
open Go.ChangeShapes Go.WideShapes Go.ChangeAt Go.RowKit
set_option linter.unusedVariables false
theorem tile_of_nat (c : Nat × Nat) (size : Nat) (w : World) (hc : InLog size c) (hs : size ≤ 9223372036854775808) :
    Calls Tryd.prog 60 #[.agg #[.int .u8 (c.1 : Int), .int .u64 (c.2 : Int)]] w fun ev w' => ev = .returned (.tuple #[.agg #[.int .u8 (tlev c : Int), .int .u64 (tidx c : Int), .int .i64 (wideI (tlev c : Int))], .int .i64 (tat c : Int), .int .i64 (tcnt c : Int), .bool true]) ∧ Below w.heap.size w w' := by
  have h1 := hc.1
  have h2 := hc.2
  have hp0 := Nat.two_pow_pos c.1
  have hin := tile_in hc
  have hdl : size / 2 ^ (8 * tlev c) ≤ size := Nat.div_le_self _ _
  have eP : (2 : Int) ^ ((c.1 : Nat) : Int).toNat = ((2 ^ c.1 : Nat) : Int) := by rw [Int.toNat_natCast]; simp
  have eJ : ((c.1 : Int) % 8).toNat = c.1 % 8 := by omega
  have eF : (c.2 : Int) * 2 ^ ((c.1 : Int) % 8).toNat = ((tidx c * 256 + tat c : Nat) : Int) := by
    rw [eJ]
    have : tidx c * 256 + tat c = c.2 * 2 ^ (c.1 % 8) := by unfold tidx tat; omega
    rw [this]; simp
  have hat : tat c < 256 := by unfold tat; omega
  rw [Nat.add_mul, Nat.one_mul] at h2
  obtain ⟨P, hP⟩ : ∃ P : Nat, 2 ^ c.1 = P := ⟨_, rfl⟩
  have hm : (c.2 : Int) * ((P : Nat) : Int) = ((c.2 * P : Nat) : Int) := by simp
  have := tile_of (c.1 : Int) (c.2 : Int) ((c.2 * P : Nat) : Int) ((tidx c * 256 + tat c : Nat) : Int) ((c.1 : Int) % 8) w (by omega) (by omega) (by omega) (by rw [eP, hP, hm]) (by rw [eP, hP]; rw [hP] at h2; omega) rfl eF (by omega)
  have e1 : (c.1 : Int) / 8 = (tlev c : Int) := by unfold tlev; omega
  have e2 : ((tidx c * 256 + tat c : Nat) : Int) / 256 = (tidx c : Int) := by omega
  have e3 : ((tidx c * 256 + tat c : Nat) : Int) % 256 = (tat c : Int) := by omega
  have e4 : (2 : Int) ^ ((c.1 : Int) % 8).toNat = (tcnt c : Int) := by rw [eJ]; unfold tcnt; simp
  rw [e1, e2, e3, e4] at this
  exact this
theorem tile_in_nat (c : Nat × Nat) (size : Nat) (w : World) (hc : InLog size c) (hs : size ≤ 9223372036854775808) :
    Calls Tryd.prog 42 #[.int .u8 (tlev c : Int), .int .u64 (tidx c : Int), .int .u64 (size : Int)] w fun ev w' => ev = .returned (.tuple #[tileV (tileT size c), .bool true]) ∧ Below w.heap.size w w' := by
  have h1 := hc.1
  have hin := tile_in hc
  have hn : (size : Int) / 2 ^ (8 * (tlev c : Int)).toNat = ((size / 2 ^ (8 * tlev c) : Nat) : Int) := by
    rw [show (8 * (tlev c : Int)).toNat = 8 * tlev c by omega]; simp
  have hl : tlev c ≤ 7 := by unfold tlev; omega
  obtain ⟨nd, hnd⟩ : ∃ nd : Nat, size / 2 ^ (8 * tlev c) = nd := ⟨_, rfl⟩
  rw [hnd] at hn hin
  have := tile_in_ok (tlev c : Int) (tidx c : Int) (size : Int) (nd : Int) w (by omega) (by omega) (by omega) (by omega) (by omega) hn (by omega) (by omega)
  have e : (Value.agg #[.int .u8 (tlev c : Int), .int .u64 (tidx c : Int), .int .i64 (min ((nd : Int) - (tidx c : Int) * 256) 256)]) = tileV (tileT size c) := by
    unfold tileV tileT wideN
    rw [hnd]
    have e2 : ((min (nd - tidx c * 256) 256 : Nat) : Int) = min ((nd : Int) - (tidx c : Int) * 256) 256 := by omega
    simp only
    rw [e2]
  rw [e] at this
  exact this
theorem lg_spec {n : Nat} (h1 : 1 ≤ n) : n ≤ 2 ^ lg n ∧ ∀ k, k < lg n → 2 ^ k < n := by
  unfold lg
  have hh := blen_hi (n - 1)
  refine ⟨by omega, fun k hk => ?_⟩
  by_cases h2 : n = 1
  · subst h2; simp [blen] at hk
  · have hl := blen_lo (y := n - 1) (by omega)
    have := Nat.pow_le_pow_right (n := 2) (by decide) (show k ≤ blen (n - 1) - 1 by omega)
    omega
set_option maxRecDepth 100000 in
theorem log_any (n : Nat) (w : World) (h1 : 1 ≤ n) (h2 : n ≤ 9223372036854775808) : Calls Tryd.prog 41 #[.int .u64 (n : Int)] w fun ev w' => ev = .returned (.int .i64 (lg n : Int)) ∧ w = w' := by
  obtain ⟨hhi, hlo⟩ := lg_spec h1
  have hl : lg n ≤ 63 := by
    rcases Nat.lt_or_ge 63 (lg n) with q | q
    · have := hlo 63 q; omega
    · exact q
  obtain ⟨g, hg⟩ : ∃ g, lg n = g := ⟨_, rfl⟩
  rw [hg] at hhi hlo hl ⊢
  have HLO := Lib.hid hlo
  have HHI := Lib.hid hhi
  obtain ⟨x, hx⟩ : ∃ x : Int, (n : Int) = x := ⟨_, rfl⟩
  have HX := Lib.hid hx
  rw [hx]
  have x1 : 1 ≤ x := by omega
  have x2 : x ≤ 9223372036854775808 := by omega
  clear hhi hlo hx h1 h2 hg
  go_enter Tryd.func41, Tryd.ntmps41
  go_wp2
  go_loop [3] (fun i => ∃ k : Nat, k ≤ g ∧ i = .int .i64 k) (fun i => g - (intOf i).toNat)
  case atStart => exact ⟨0, Nat.zero_le _, rfl⟩
  case round =>
    obtain ⟨k, hk, rfl⟩ := hrel
    obtain ⟨p, hp⟩ : ∃ p : Nat, 2 ^ k = p := ⟨_, rfl⟩
    have hpl : p ≤ 2 ^ 63 := by rw [← hp]; exact Nat.pow_le_pow_right (by decide) (by omega)
    have hw : IntKind.u64.wrap (2 ^ k) = (p : Int) := by
      have e : (2 : Int) ^ k = (p : Int) := by rw [← hp]; simp
      rw [e]; exact IntWalk.u64_in _ (by omega)
    have hw2 : IntKind.u64.wrap (1 * 2 ^ k) = (p : Int) := by rw [Int.one_mul]; exact hw
    have k0 : (0 : Int) ≤ k := by omega
    have k1 : (k : Int) < 64 := by omega
    by_cases hlt : k < g
    · have hlt2 : (p : Int) < x := by have := HLO.out k hlt; have := HX.out; rw [hp] at *; omega
      clear hp hpl
      go_wp2
      go_round
      case rel => exact ⟨k + 1, by omega, by go_num⟩
      case measure => simp [intOf]; omega
    · obtain rfl : k = g := by omega
      have hlt2 : ¬ (p : Int) < x := by have := HHI.out; have := HX.out; rw [hp] at *; omega
      clear hp hpl
      go_wp2
      go_ret
      exact ⟨rfl, rfl⟩
def hits (c : Nat × Nat) (t : Nat × Nat × Nat) : Bool := decide (tlev c = t.1) && decide (tidx c = t.2.1)
set_option maxRecDepth 100000 in
set_option maxHeartbeats 4000000 in
theorem needs_any (p : List (Nat × Nat)) (t : Nat × Nat × Nat) (size : Nat) (v : Value) (w : World) (hR : Rd w v 2 p.length (coordCells p)) (hc : ∀ c ∈ p, InLog size c) (hs : size ≤ 9223372036854775808) (hm : p.length ≤ 1000000) (ht : TB t) :
    Calls Tryd.prog 43 #[.agg #[v], tileV t] w fun ev w' => ev = .returned (.bool (p.any fun c => hits c t)) ∧ Below w.heap.size w w' := by
  obtain ⟨_, A, cap, rfl, hRc⟩ := hR
  obtain ⟨m, hmm⟩ : ∃ m, p.length = m := ⟨_, rfl⟩
  rw [hmm] at hRc hm ⊢
  have HM := Lib.hid hmm
  have HR := Lib.hid hRc
  have HC := Lib.hid (And.intro hc hs)
  obtain ⟨l, ix, wd⟩ := t
  have HT := Lib.hid ht
  unfold tileV
  simp only
  obtain ⟨lI, hlI⟩ : ∃ x : Int, ((l : Nat) : Int) = x := ⟨_, rfl⟩
  obtain ⟨xI, hxI⟩ : ∃ x : Int, ((ix : Nat) : Int) = x := ⟨_, rfl⟩
  obtain ⟨wI, hwI⟩ : ∃ x : Int, ((wd : Nat) : Int) = x := ⟨_, rfl⟩
  have HI := Lib.hid (And.intro hlI hxI)
  rw [hlI, hxI, hwI]
  clear hmm hRc hc hs ht hlI hxI hwI
  obtain ⟨wz, hwz⟩ : ∃ z, (w.alloc (.cells #[.slice A m cap] 58)).alloc (.cells #[.int .u8 lI, .int .u64 xI, .int .i64 wI] 84) = z := ⟨_, rfl⟩
  have hbz : Below w.heap.size w wz := by rw [← hwz]; exact ((Below.refl _ _).alloc (Nat.le_refl _) _).alloc (by simp) _
  have hsz : w.heap.size + 2 = wz.heap.size := by rw [← hwz]; simp
  have k0 : wz.cell? ⟨w.heap.size, 0, none⟩ = some (.slice A m cap) := by rw [← hwz]; exact cell_alloc (cell_new _ _ 0 _ rfl) _
  have r1 : wz.heap[w.heap.size + 1]? = some (.cells #[.int .u8 lI, .int .u64 xI, .int .i64 wI] 84 (0, 0)) := by rw [← hwz]; exact heap_at _ _ _ (by simp)
  have k1 : wz.cell? ⟨w.heap.size + 1, 0, none⟩ = some (.int .u8 lI) := by rw [cell_of_row _ _ 0 _ _ _ r1]; rfl
  have k2 : wz.cell? ⟨w.heap.size + 1, 1, none⟩ = some (.int .u64 xI) := by rw [cell_of_row _ _ 1 _ _ _ r1]; rfl
  have HZ := Lib.hid (And.intro hbz (And.intro hsz (And.intro k0 (And.intro k1 k2))))
  have HW := Lib.hid hwz
  clear hwz hbz hsz k0 k1 k2 r1
  go_enter Tryd.func43, Tryd.ntmps43
  go_upto_region 1 with fail
  rw [HW.out]
  go_wp2_with fail
  go_loopw [5] (fun i wr => ∃ k : Nat, k ≤ m ∧ i = .int .i64 k ∧ Hid (Below wz.heap.size wz wr) ∧ Hid (∀ j c, j < k → p[j]? = some c → hits c (l, ix, wd) = false)) (fun i _ => m - (intOf i).toNat)
  case atStart => exact ⟨0, Nat.zero_le _, rfl, Lib.hid (Below.refl _ _), Lib.hid (fun j c h => by omega)⟩
  case round =>
    obtain ⟨k, hk, rfl, HB, HF⟩ := hrel
    obtain ⟨hbz, hsz, z0, z1, z2⟩ := HZ.out
    have k0 := cell_below HB.out z0 (by omega)
    have k1 := cell_below HB.out z1 (by omega)
    have k2 := cell_below HB.out z2 (by omega)
    have hsw := HB.out.size
    have hl1 : w.heap.size < wr.heap.size := by omega
    have hl2 : w.heap.size + 1 < wr.heap.size := by omega
    have i0 : (0 : Int) ≤ k := by omega
    clear z0 z1 z2 hsz hbz
    by_cases hlt : k < m
    · obtain ⟨g1, rfl, hc1⟩ : ∃ g, A = some ⟨g, 0, none⟩ ∧ ∀ j u, (coordCells p)[j]? = some u → w.cell? ⟨g, j, none⟩ = some u := by
        rcases HR.out with q | q
        · omega
        · exact q
      obtain ⟨c, hc⟩ : ∃ c, p[k]? = some c := ⟨_, List.getElem?_eq_getElem (by have := HM.out; omega)⟩
      have hat := coordCells_at p k c hc
      have HBW : Hid (Below w.heap.size w wr) := Lib.hid (HZ.out.1.trans (HB.out.mono (by have := HZ.out.2.1; omega)))
      have a0 := cell_below HBW.out (hc1 _ _ hat.1) (block_of_cell (hc1 _ _ hat.1))
      have a1 := cell_below HBW.out (hc1 _ _ hat.2) (block_of_cell (hc1 _ _ hat.2))
      have HOF := Lib.hid (fun w' => tile_of_nat c size w' (HC.out.1 c (List.mem_of_getElem? hc)) HC.out.2)
      have HPC := Lib.hid hc
      have i1 : (k : Int) < m := by omega
      obtain ⟨cl, hcl⟩ : ∃ x : Int, (c.1 : Int) = x := ⟨_, rfl⟩
      obtain ⟨cx, hcx⟩ : ∃ x : Int, (c.2 : Int) = x := ⟨_, rfl⟩
      obtain ⟨tl, htl⟩ : ∃ x : Int, ((tlev c : Nat) : Int) = x := ⟨_, rfl⟩
      obtain ⟨tx, htx⟩ : ∃ x : Int, ((tidx c : Nat) : Int) = x := ⟨_, rfl⟩
      rw [hcl, hcx, htl, htx] at HOF
      rw [hcl] at a0
      rw [hcx] at a1
      have HE := Lib.hid (And.intro htl htx)
      have hhit : hits c (l, ix, wd) = (decide (tl = lI) && decide (tx = xI)) := by
        unfold hits
        simp only
        have e1 := HI.out.1
        have e2 := HI.out.2
        congr 1
        · exact decide_eq_decide.2 (by omega)
        · exact decide_eq_decide.2 (by omega)
      have HH := Lib.hid hhit
      clear hat hc1 hc hcl hcx htl htx hhit
      go_wp2_with fail
      refine (HOF.out wr).mono ?_
      rintro ev w1 ⟨rfl, b1⟩
      have hsw1 := b1.size
      have k1 := cell_below b1 k1 (by omega)
      have k2 := cell_below b1 k2 (by omega)
      have hl3 : w.heap.size + 1 < w1.heap.size := by omega
      have HB1 : Hid (Below wz.heap.size wz w1) := Lib.hid (HB.out.trans (b1.mono hsw))
      clear b1
      by_cases e1 : tl = lI
      · by_cases e2 : tx = xI
        · subst e1 e2
          have HX : Hid (p.any (fun c => hits c (l, ix, wd)) = true) := Lib.hid (List.any_eq_true.2 ⟨c, List.mem_of_getElem? HPC.out, by rw [HH.out]; simp⟩)
          go_wp2
          go_ret
          refine ⟨by rw [HX.out]; rfl, ?_⟩
          exact HZ.out.1.trans ((HB1.out.alloc (by omega) _).mono (by have := HZ.out.2.1; omega))
        · subst e1
          have HX : Hid (∀ j c', j < k + 1 → p[j]? = some c' → hits c' (l, ix, wd) = false) := Lib.hid (fun j c' hj h => by
            by_cases q : j = k
            · subst q; rw [HPC.out] at h; cases h; rw [HH.out]; simp [e2]
            · exact HF.out j c' (by omega) h)
          have hq : (tx == xI) = false := by simpa using e2
          clear e2
          go_wp2
          go_roundw
          case rel => exact ⟨k + 1, by omega, by go_num, Lib.hid (HB1.out.alloc (by omega) _), HX⟩
          case measure => simp [intOf]; omega
      · have HX : Hid (∀ j c', j < k + 1 → p[j]? = some c' → hits c' (l, ix, wd) = false) := Lib.hid (fun j c' hj h => by
          by_cases q : j = k
          · subst q; rw [HPC.out] at h; cases h; rw [HH.out]; simp [e1]
          · exact HF.out j c' (by omega) h)
        have hq : (tl == lI) = false := by simpa using e1
        clear e1
        go_wp2
        go_roundw
        case rel => exact ⟨k + 1, by omega, by go_num, Lib.hid (HB1.out.alloc (by omega) _), HX⟩
        case measure => simp [intOf]; omega
    · have HX : Hid (p.any (fun c => hits c (l, ix, wd)) = false) := Lib.hid (by
        rw [List.any_eq_false]
        intro c hc
        obtain ⟨j, hj, e⟩ := List.getElem_of_mem hc
        have := HF.out j c (by have := HM.out; omega) (by rw [List.getElem?_eq_getElem hj, e])
        simp [this])
      go_wp2
      go_ret
      refine ⟨by rw [HX.out]; rfl, ?_⟩
      exact HZ.out.1.trans (HB.out.mono (by have := HZ.out.2.1; omega))
end Go.Proofs.YtdodfeoaioolnaaDoor

/- cartularylaw15.laid: each tree of the parts stands in one of the tiles. No condition. -/
namespace Go.Proofs.YtdodfeoaioolnaaDoor
open Go.ChangeShapes Go.WideShapes Go.ChangeAt Go.RowKit
set_option linter.unusedVariables false
def inT (c : Nat × Nat) (t : Nat × Nat × Nat) : Bool := hits c t && decide (tat c + tcnt c ≤ t.2.2)
set_option maxRecDepth 100000 in
set_option maxHeartbeats 8000000 in
theorem laid_any (ps : List (List (Nat × Nat))) (T : List (Nat × Nat × Nat)) (size : Nat) (v vt : Value) (w : World) (hP : PRd w v ps) (hT : Rd w vt 3 T.length (tileCells T)) (hc : AllIn size ps) (hs : size ≤ 9223372036854775808) (hps : ps.length ≤ 1000000) (hpl : ∀ p ∈ ps, p.length ≤ 1000000) (hTl : T.length ≤ 1000000)
    (hok : ∀ p ∈ ps, ∀ c ∈ p, ∃ t ∈ T, inT c t = true) : Calls Tryd.prog 44 #[v, vt] w fun ev w' => ev = .returned (.bool true) ∧ Below w.heap.size w w' := by
  obtain ⟨vs, ⟨_, A1, c1, rfl, h1⟩, q1⟩ := hP
  obtain ⟨_, A2, c2, rfl, h2⟩ := hT
  obtain ⟨n, hn⟩ : ∃ n, ps.length = n := ⟨_, rfl⟩
  obtain ⟨r, hr⟩ : ∃ r, T.length = r := ⟨_, rfl⟩
  rw [hn] at h1 hps ⊢
  rw [hr] at h2 hTl ⊢
  have HN := Lib.hid (And.intro hn hr)
  have H1 := Lib.hid h1
  have H2 := Lib.hid h2
  have Q1 := Lib.hid q1
  have HC := Lib.hid (And.intro hc (And.intro hs (And.intro hpl hok)))
  clear hn hr h1 h2 q1 hc hs hpl hok
  go_enter Tryd.func44, Tryd.ntmps44
  go_wp2
  go_loopw [5] (fun i wr => ∃ k : Nat, k ≤ n ∧ i = .int .i64 k ∧ Hid (Below w.heap.size w wr)) (fun i _ => n - (intOf i).toNat)
  case atStart => exact ⟨0, Nat.zero_le _, rfl, Lib.hid (Below.refl _ _)⟩
  case round =>
    obtain ⟨k, hk, rfl, HB⟩ := hrel
    obtain ⟨wo, hwo⟩ : ∃ x, x = wr := ⟨_, rfl⟩
    subst hwo
    by_cases hlt : k < n
    · obtain ⟨g1, rfl, hc1⟩ : ∃ g, A1 = some ⟨g, 0, none⟩ ∧ ∀ j u, vs[j]? = some u → w.cell? ⟨g, j, none⟩ = some u := by
        rcases H1.out with q | q
        · omega
        · exact q
      obtain ⟨p, hp⟩ : ∃ p, ps[k]? = some p := ⟨_, List.getElem?_eq_getElem (by have := HN.out.1; omega)⟩
      obtain ⟨u, hu, _, A3, c3, rfl, h3⟩ := Q1.out k p hp
      have a0 := hc1 k _ hu
      have l0 := block_of_cell a0
      have hpm := List.mem_of_getElem? hp
      have hml := HC.out.2.2.1 p hpm
      obtain ⟨m, hm⟩ : ∃ m, p.length = m := ⟨_, rfl⟩
      rw [hm] at a0 h3 hml
      have H3 := Lib.hid h3
      have HA := Lib.hid (And.intro a0 l0)
      have HPM := Lib.hid (And.intro hpm hm)
      have i0 : (0 : Int) ≤ k := by omega
      have i1 : (k : Int) < n := by omega
      have HKI := Lib.hid (And.intro i0 i1)
      clear hc1 hp hu h3 hm hpm
      go_wp2_with fail
      go_loopw [6] (fun i wr => ∃ j : Nat, j ≤ m ∧ i = .int .i64 j ∧ Hid (Below w.heap.size w wr)) (fun i _ => m - (intOf i).toNat)
      case atStart => exact ⟨0, Nat.zero_le _, rfl, HB⟩
      case round =>
        obtain ⟨j, hj, rfl, HB2⟩ := hrel
        obtain ⟨wp, hwp⟩ : ∃ x, x = wr := ⟨_, rfl⟩
        subst hwp
        have b0 := cell_below HB2.out HA.out.1 HA.out.2
        have bl := block_of_cell b0
        have j0 : (0 : Int) ≤ j := by omega
        by_cases hlj : j < m
        · obtain ⟨g3, rfl, hc3⟩ : ∃ g, A3 = some ⟨g, 0, none⟩ ∧ ∀ i u, (coordCells p)[i]? = some u → w.cell? ⟨g, i, none⟩ = some u := by
            rcases H3.out with q | q
            · omega
            · exact q
          obtain ⟨c, hc⟩ : ∃ c, p[j]? = some c := ⟨_, List.getElem?_eq_getElem (by have := HPM.out.2; omega)⟩
          have hat := coordCells_at p j c hc
          have d0 := cell_below HB2.out (hc3 _ _ hat.1) (block_of_cell (hc3 _ _ hat.1))
          have d1 := cell_below HB2.out (hc3 _ _ hat.2) (block_of_cell (hc3 _ _ hat.2))
          have hcm := List.mem_of_getElem? hc
          have HOF := Lib.hid (fun w' => tile_of_nat c size w' (HC.out.1 p HPM.out.1 c hcm) HC.out.2.1)
          have HOK := Lib.hid (HC.out.2.2.2 p HPM.out.1 c hcm)
          have hcb := tcnt_bd c
          have hcr := tat_room c
          obtain ⟨cl, hcl⟩ : ∃ x : Int, (c.1 : Int) = x := ⟨_, rfl⟩
          obtain ⟨cx, hcx⟩ : ∃ x : Int, (c.2 : Int) = x := ⟨_, rfl⟩
          obtain ⟨tl, htl⟩ : ∃ x : Int, ((tlev c : Nat) : Int) = x := ⟨_, rfl⟩
          obtain ⟨tx, htx⟩ : ∃ x : Int, ((tidx c : Nat) : Int) = x := ⟨_, rfl⟩
          obtain ⟨ta, hta⟩ : ∃ x : Int, ((tat c : Nat) : Int) = x := ⟨_, rfl⟩
          obtain ⟨tn, htn⟩ : ∃ x : Int, ((tcnt c : Nat) : Int) = x := ⟨_, rfl⟩
          rw [hcl, hcx, htl, htx, hta, htn] at HOF
          rw [hcl] at d0
          rw [hcx] at d1
          have HE := Lib.hid (And.intro htl (And.intro htx (And.intro hta htn)))
          have s0 : 0 ≤ ta ∧ ta ≤ 256 := by omega
          have s1 : 0 ≤ tn ∧ tn ≤ 128 := by omega
          have j1 : (j : Int) < m := by omega
          have HJ := Lib.hid (And.intro j0 j1)
          clear hat hc3 hc hcm hcb hcr hcl hcx htl htx hta htn
          go_wp2_with fail
          refine (HOF.out wp).mono ?_
          rintro ev w1 ⟨rfl, b1⟩
          obtain ⟨wy, hwy⟩ : ∃ z, w1.alloc (.cells #[.int .u8 tl, .int .u64 tx, .int .i64 (wideI tl)] 84) = z := ⟨_, rfl⟩
          have HB3 : Hid (Below w.heap.size w wy) := Lib.hid (by rw [← hwy]; exact (HB2.out.trans (b1.mono HB2.out.size)).alloc (by have := HB2.out.size; have := b1.size; omega) _)
          have r1 : wy.heap[w1.heap.size]? = some (.cells #[.int .u8 tl, .int .u64 tx, .int .i64 (wideI tl)] 84 (0, 0)) := by rw [← hwy]; exact heap_alloc_new _ _
          have HY : Hid (wy.cell? ⟨w1.heap.size, 0, none⟩ = some (.int .u8 tl) ∧ wy.cell? ⟨w1.heap.size, 1, none⟩ = some (.int .u64 tx)) := Lib.hid ⟨by rw [cell_of_row _ _ 0 _ _ _ r1]; rfl, by rw [cell_of_row _ _ 1 _ _ _ r1]; rfl⟩
          have HWY := Lib.hid hwy
          clear b1 r1 hwy
          go_upto_region 9 with fail
          rw [HWY.out]
          go_wp2_with fail
          go_loopw [7, 12] (fun b i wr => ∃ q : Nat, q ≤ r ∧ i = .int .i64 q ∧ b = .bool ((T.take q).any (inT c)) ∧ Hid (Below wy.heap.size wy wr)) (fun _ i _ => r - (intOf i).toNat)
          case atStart => exact ⟨0, Nat.zero_le _, rfl, rfl, Lib.hid (Below.refl _ _)⟩
          case round =>
            obtain ⟨q, hq, rfl, rfl, HB5⟩ := hrel
            have e0 := cell_below HB5.out HY.out.1 (block_of_cell HY.out.1)
            have e1 := cell_below HB5.out HY.out.2 (block_of_cell HY.out.2)
            by_cases hlq : q < r
            · obtain ⟨g2, rfl, hc2⟩ : ∃ g, A2 = some ⟨g, 0, none⟩ ∧ ∀ i u, (tileCells T)[i]? = some u → w.cell? ⟨g, i, none⟩ = some u := by
                rcases H2.out with q | q
                · omega
                · exact q
              obtain ⟨t, ht⟩ : ∃ t, T[q]? = some t := ⟨_, List.getElem?_eq_getElem (by have := HN.out.2; omega)⟩
              have hat := tileCells_at T q t ht
              have HBr : Hid (Below w.heap.size w wr) := Lib.hid (HB3.out.trans (HB5.out.mono HB3.out.size))
              have f0 := cell_below HBr.out (hc2 _ _ hat.1) (block_of_cell (hc2 _ _ hat.1))
              have f1 := cell_below HBr.out (hc2 _ _ hat.2.1) (block_of_cell (hc2 _ _ hat.2.1))
              have f2 := cell_below HBr.out (hc2 _ _ hat.2.2) (block_of_cell (hc2 _ _ hat.2.2))
              obtain ⟨xl, hxl⟩ : ∃ x : Int, (t.1 : Int) = x := ⟨_, rfl⟩
              obtain ⟨xi, hxi⟩ : ∃ x : Int, (t.2.1 : Int) = x := ⟨_, rfl⟩
              obtain ⟨xw, hxw⟩ : ∃ x : Int, (t.2.2 : Int) = x := ⟨_, rfl⟩
              rw [hxl] at f0
              rw [hxi] at f1
              rw [hxw] at f2
              have q0 : (0 : Int) ≤ q := by omega
              have q1 : (q : Int) < r := by omega
              have hin : inT c t = (decide (tl = xl) && decide (tx = xi) && decide (ta + tn ≤ xw)) := by
                obtain ⟨z1, z2, z3, z4⟩ := HE.out
                unfold inT hits
                congr 1
                · congr 1
                  · exact decide_eq_decide.2 (by omega)
                  · exact decide_eq_decide.2 (by omega)
                · exact decide_eq_decide.2 (by omega)
              have HS : Hid ((T.take (q + 1)).any (inT c) = ((T.take q).any (inT c) || inT c t)) := Lib.hid (by rw [take_next ht, List.any_append]; simp)
              obtain ⟨b, hb⟩ : ∃ b, (T.take q).any (inT c) = b := ⟨_, rfl⟩
              rw [hb]
              rw [hb, hin] at HS
              have HDON : Hid (∀ wz, Below wr.heap.size wr wz → Below wy.heap.size wy wz) := Lib.hid (fun wz h => HB5.out.trans (h.mono HB5.out.size))
              clear hat hc2 ht hxl hxi hxw hin hb
              cases b with
              | true =>
                have HV : Hid ((T.take (q + 1)).any (inT c) = true) := Lib.hid (by rw [HS.out]; rfl)
                clear e0 e1 f0 f1 f2
                go_wp2_with fail
                go_quiet (fail)
                go_wp2
                go_roundw
                case rel => exact ⟨q + 1, by omega, by go_num, by first | (rw [HV.out]; rfl) | (rw [HV.out]), Lib.hid (HDON.out _ (below_drewN (Below.refl _ _)))⟩
                case measure => simp [intOf]; omega
              | false =>
                have hs0 : (decide (tl = xl) && decide (tx = xi) && decide (ta + tn ≤ xw)) = (T.take (q + 1)).any (inT c) := by rw [HS.out]; simp
                have HS0 := Lib.hid hs0
                clear hs0
                by_cases h1 : tl = xl
                · by_cases h2 : tx = xi
                  · by_cases h3 : ta + tn ≤ xw
                    · have HV : Hid ((T.take (q + 1)).any (inT c) = true) := Lib.hid (by rw [← HS0.out]; simp [h1, h2, h3])
                      have c1 : (tl == xl) = true := by simpa using h1
                      have c2 : (tx == xi) = true := by simpa using h2
                      have c3 : decide (ta + tn ≤ xw) = true := by simpa using h3
                      clear h1 h2 h3
                      go_wp2_with fail
                      go_quiet (fail)
                      go_wp2
                      go_roundw
                      case rel => exact ⟨q + 1, by omega, by go_num, by first | (rw [HV.out]; rfl) | (rw [HV.out]), Lib.hid (HDON.out _ (below_drewN (Below.refl _ _)))⟩
                      case measure => simp [intOf]; omega
                    · have HV : Hid ((T.take (q + 1)).any (inT c) = false) := Lib.hid (by rw [← HS0.out]; simp [h3])
                      have c1 : (tl == xl) = true := by simpa using h1
                      have c2 : (tx == xi) = true := by simpa using h2
                      have c3 : decide (ta + tn ≤ xw) = false := by simpa using h3
                      clear h1 h2 h3
                      go_wp2_with fail
                      go_quiet (fail)
                      go_wp2
                      go_roundw
                      case rel => exact ⟨q + 1, by omega, by go_num, by first | (rw [HV.out]; rfl) | (rw [HV.out]), Lib.hid (HDON.out _ (below_drewN (Below.refl _ _)))⟩
                      case measure => simp [intOf]; omega
                  · have HV : Hid ((T.take (q + 1)).any (inT c) = false) := Lib.hid (by rw [← HS0.out]; simp [h2])
                    have c1 : (tl == xl) = true := by simpa using h1
                    have c2 : (tx == xi) = false := by simpa using h2
                    clear h1 h2
                    go_wp2_with fail
                    go_quiet (fail)
                    go_wp2
                    go_roundw
                    case rel => exact ⟨q + 1, by omega, by go_num, by first | (rw [HV.out]; rfl) | (rw [HV.out]), Lib.hid (HDON.out _ (below_drewN (Below.refl _ _)))⟩
                    case measure => simp [intOf]; omega
                · have HV : Hid ((T.take (q + 1)).any (inT c) = false) := Lib.hid (by rw [← HS0.out]; simp [h1])
                  have c1 : (tl == xl) = false := by simpa using h1
                  clear h1
                  go_wp2_with fail
                  go_quiet (fail)
                  go_wp2
                  go_roundw
                  case rel => exact ⟨q + 1, by omega, by go_num, by first | (rw [HV.out]; rfl) | (rw [HV.out]), Lib.hid (HDON.out _ (below_drewN (Below.refl _ _)))⟩
                  case measure => simp [intOf]; omega
            · obtain rfl : q = r := by omega
              have hT : (T.take q).any (inT c) = true := by
                obtain ⟨t, ht, hi⟩ := HOK.out
                rw [List.take_of_length_le (by have := HN.out.2; omega)]
                exact List.any_eq_true.2 ⟨t, ht, hi⟩
              rw [hT]
              have HBr : Hid (Below w.heap.size w wr) := Lib.hid (HB3.out.trans (HB5.out.mono HB3.out.size))
              obtain ⟨j0, j1⟩ := HJ.out
              clear hT
              go_wp2
              go_roundw
              case rel => exact ⟨j + 1, by omega, by go_num, HBr⟩
              case measure => simp [intOf]; omega
        · obtain ⟨i0, i1⟩ := HKI.out
          go_wp2
          go_roundw
          case rel => exact ⟨k + 1, by omega, by go_num, HB2⟩
          case measure => simp [intOf]; omega
    · go_wp2
      go_ret
      exact ⟨rfl, HB.out⟩
end Go.Proofs.YtdodfeoaioolnaaDoor

/- cartularylaw15.few: few parts, few tiles, each once and each needed. Condition: none. -/
namespace Go.Proofs.YtdodfeoaioolnaaDoor
open Go.ChangeShapes Go.WideShapes Go.ChangeAt Go.RowKit
set_option linter.unusedVariables false
set_option maxRecDepth 100000 in
theorem tile_lits (t : Nat × Nat × Nat) (h : TB t) (f : Nat) : Tryd.prog.keyLits (f + 1 + 1) 84 (tileV t).cells.toList = some [.int .u8 (t.1 : Int), .int .u64 (t.2.1 : Int), .int .i64 (t.2.2 : Int)] := by
  have hk : Tryd.prog.keyType 84 = true := by kernel_rfl
  have hn : Tryd.prog.types.size = 210 := by kernel_rfl
  have hc : Tryd.prog.cellsOf 84 = 3 := by kernel_rfl
  have c1 : Tryd.prog.cellsOf 5 = 1 := by kernel_rfl
  have c2 : Tryd.prog.cellsOf 39 = 1 := by kernel_rfl
  have c3 : Tryd.prog.cellsOf 3 = 1 := by kernel_rfl
  have w1 : (Lit.int .u8 (t.1 : Int)).wf = true := by have := h.1; simp [Lit.wf, IntKind.min, IntKind.max, IntKind.signed, IntKind.bits]; omega
  have w2 : (Lit.int .u64 (t.2.1 : Int)).wf = true := by have := h.2.1; simp [Lit.wf, IntKind.min, IntKind.max, IntKind.signed, IntKind.bits]; omega
  have w3 : (Lit.int .i64 (t.2.2 : Int)).wf = true := by have := h.2.2; simp [Lit.wf, IntKind.min, IntKind.max, IntKind.signed, IntKind.bits]; omega
  have u1 := Tryd.underlying84
  have u2 := Tryd.underlying5
  have u3 := Tryd.underlying39
  have u4 := Tryd.underlying3
  have k1 : Tryd.prog.keyLits (f + 1) 5 [.int .u8 (t.1 : Int)] = some [.int .u8 (t.1 : Int)] := by unfold Program.keyLits; simp only [u2]; rw [if_pos ⟨trivial, w1⟩]
  have k2 : Tryd.prog.keyLits (f + 1) 39 [.int .u64 (t.2.1 : Int)] = some [.int .u64 (t.2.1 : Int)] := by unfold Program.keyLits; simp only [u3]; rw [if_pos ⟨trivial, w2⟩]
  have k3 : Tryd.prog.keyLits (f + 1) 3 [.int .i64 (t.2.2 : Int)] = some [.int .i64 (t.2.2 : Int)] := by unfold Program.keyLits; simp only [u4]; rw [if_pos ⟨trivial, w3⟩]
  unfold Program.keyLits
  simp only [u1, tileV, Value.cells, hc]
  simp [c1, c2, c3, k1, k2, k3]
theorem tile_eq (t s : Nat × Nat × Nat) (ht : TB t) (hs : TB s) (w : World) : (Op.equalIn 10000 84 (tileV t) (tileV s)).run Tryd.prog w = .ok (decide (t = s)) w := by
  have hd := run_equalIn_deep (P := Tryd.prog) (10000 - (210 + 1)) (210 + 1) 84 (by kernel_rfl)
  have hf : ∀ t, (tileV t).formed Tryd.prog 84 = true := fun t => by
    have u1 := Tryd.underlying84
    have hc : Tryd.prog.cellsOf 84 = 3 := by kernel_rfl
    unfold Value.formed; simp only [u1, tileV, hc]; rfl
  obtain ⟨r, h1, h2⟩ := hd w (0 + 1 + 1) (0 + 1 + 1) (tileV t) (tileV s) _ _ (hf t) (hf s) (tile_lits t ht 0) (tile_lits s hs 0)
  have e : r = decide (t = s) := by
    rw [Bool.eq_iff_iff, h2]
    obtain ⟨a, b, c⟩ := t
    obtain ⟨x, y, z⟩ := s
    simp
    omega
  rw [← e]; exact h1
theorem hits_tile (size : Nat) (c : Nat × Nat) : hits c (tileT size c) = true := by simp [hits, tileT]
theorem inT_tile {size : Nat} {c : Nat × Nat} (h : InLog size c) : inT c (tileT size c) = true := by
  have := tile_room h
  unfold inT
  rw [hits_tile]
  simp only [Bool.true_and, decide_eq_true_eq]
  exact this
set_option maxRecDepth 100000 in
set_option maxHeartbeats 8000000 in
theorem few_any (ps : List (List (Nat × Nat))) (size all : Nat) (v : Value) (w : World) (hP : PRd w v ps) (hc : AllIn all ps) (h1 : 1 ≤ size) (h2 : size ≤ 9223372036854775808) (hs : all ≤ 9223372036854775808) (hps : ps.length ≤ lg size + 1) (hpt : ps.flatten.length ≤ 2 * (lg size + 1)) :
    Calls Tryd.prog 15 #[v, .int .u64 (size : Int), .int .u64 (all : Int)] w fun ev w' => ev = .returned (.bool true) ∧ Below w.heap.size w w' := by
  have hlg : lg size ≤ 64 := lg_le (by omega)
  have HLOG := Lib.hid (fun w' => log_any size w' h1 h2)
  obtain ⟨g, hg⟩ : ∃ g, lg size = g := ⟨_, rfl⟩
  rw [hg] at hps hpt hlg HLOG
  have hTl := tilesF_len all ps.flatten []
  have hTn := tilesF_nodup all ps.flatten [] List.nodup_nil
  have hTm := tilesF_mem all ps.flatten []
  have HTO := Lib.hid (fun w' h => tiles_ok all v ps w' h hc hs (by omega) (by omega))
  obtain ⟨T, hT⟩ : ∃ T, tilesF all ps.flatten [] = T := ⟨_, rfl⟩
  rw [hT] at hTl hTn hTm HTO
  have hT2 : T.length ≤ 2 * (g + 1) := by simp only [List.length_nil] at hTl; omega
  have hpl : ∀ p ∈ ps, p.length ≤ 1000 := fun p hp => by
    have := (List.sublist_flatten_of_mem hp).length_le; omega
  have hTc : ∀ t ∈ T, ∃ p ∈ ps, ∃ c ∈ p, tileT all c = t := fun t ht => by
    rcases (hTm t).1 ht with q | ⟨c, q, e⟩
    · simp at q
    · obtain ⟨p, hp, hcp⟩ := List.mem_flatten.1 q
      exact ⟨p, hp, c, hcp, e⟩
  have hTk : ∀ p ∈ ps, ∀ c ∈ p, ∃ t ∈ T, inT c t = true := fun p hp c hcp => ⟨tileT all c, (hTm _).2 (.inr ⟨c, List.mem_flatten.2 ⟨p, hp, hcp⟩, rfl⟩), inT_tile (hc p hp c hcp)⟩
  have hTb : ∀ t ∈ T, TB t := fun t ht => by
    obtain ⟨p, hp, c, hcp, e⟩ := hTc t ht
    rw [← e]; exact tb_of (hc p hp c hcp) hs
  have HX := Lib.hid (And.intro hc (And.intro hs (And.intro hpl (And.intro hTn (And.intro hTc (And.intro hTk hTb))))))
  have HP := Lib.hid hP
  obtain ⟨vs, ⟨_, A1, c1, rfl, hv1⟩, hv2⟩ := hP
  obtain ⟨n, hn⟩ : ∃ n, ps.length = n := ⟨_, rfl⟩
  obtain ⟨r, hr⟩ : ∃ r, T.length = r := ⟨_, rfl⟩
  rw [hn] at hv1 hps HP HTO ⊢
  rw [hr] at hT2 HTO
  have HN := Lib.hid (And.intro hn hr)
  have HV := Lib.hid (And.intro hv1 hv2)
  obtain ⟨sI, hsI⟩ : ∃ x : Int, (size : Int) = x := ⟨_, rfl⟩
  obtain ⟨aI, haI⟩ : ∃ x : Int, (all : Int) = x := ⟨_, rfl⟩
  rw [hsI] at HLOG
  rw [haI] at HTO
  rw [hsI, haI]
  have HAI := Lib.hid haI
  have p1 : (n : Int) ≤ (g : Int) + 1 := by omega
  have p2 : (r : Int) ≤ 2 * ((g : Int) + 1) := by omega
  have p3 : (g : Int) ≤ 64 := by omega
  have p4 : (0 : Int) ≤ g := by omega
  clear hc h1 h2 hs hg hT hTl hTn hTm hpl hTc hTk hn hr hv1 hv2 hsI haI hpt
  go_enter Tryd.func15, Tryd.ntmps15
  go_wp2_with fail
  refine (HLOG.out w).mono ?_
  rintro ev w0 ⟨rfl, rfl⟩
  go_wp2_with fail
  refine (HTO.out w HP.out).mono ?_
  rintro ev w1 ⟨vt, rfl, o1, b1⟩
  obtain ⟨_, A2, c2, rfl, hr1⟩ := rd_own o1
  have HB1 := Lib.hid b1
  have HR := Lib.hid (rd_own o1)
  have HR1 := Lib.hid hr1
  clear b1 o1 hr1
  go_wp2
  go_loopw [10, 11] (fun u i wr => ∃ k : Nat, k ≤ r ∧ u = .int .i64 k ∧ i = .int .i64 k ∧ Hid (Below w1.heap.size w1 wr)) (fun _ i _ => r - (intOf i).toNat)
  case atStart => exact ⟨0, Nat.zero_le _, rfl, rfl, Lib.hid (Below.refl _ _)⟩
  case round =>
    obtain ⟨k, hk, rfl, rfl, HB⟩ := hrel
    obtain ⟨wo, hwo⟩ : ∃ x, x = wr := ⟨_, rfl⟩
    subst hwo
    by_cases hlt : k < r
    · obtain ⟨g2, rfl, hc2⟩ : ∃ g, A2 = some ⟨g, 0, none⟩ ∧ ∀ i u, (tileCells T)[i]? = some u → w1.cell? ⟨g, i, none⟩ = some u := by
        rcases HR1.out with q | q
        · omega
        · exact q
      obtain ⟨t, ht⟩ : ∃ t, T[k]? = some t := ⟨_, List.getElem?_eq_getElem (by have := HN.out.2; omega)⟩
      have hat := tileCells_at T k t ht
      have HCL : Hid (∀ i u, (tileCells T)[i]? = some u → w1.cell? ⟨g2, i, none⟩ = some u) := Lib.hid hc2
      have HTT := Lib.hid ht
      obtain ⟨xl, hxl⟩ : ∃ x : Int, (t.1 : Int) = x := ⟨_, rfl⟩
      obtain ⟨xi, hxi⟩ : ∃ x : Int, (t.2.1 : Int) = x := ⟨_, rfl⟩
      obtain ⟨xw, hxw⟩ : ∃ x : Int, (t.2.2 : Int) = x := ⟨_, rfl⟩
      have HXS := Lib.hid (And.intro hxl (And.intro hxi hxw))
      rw [hxl, hxi, hxw] at hat
      have KT0 : Hid (∀ w', Below w1.heap.size w1 w' → w'.cell? ⟨g2, k * 3, none⟩ = some (.int .u8 xl) ∧ w'.cell? ⟨g2, k * 3 + 1, none⟩ = some (.int .u64 xi) ∧ w'.cell? ⟨g2, k * 3 + 2, none⟩ = some (.int .i64 xw)) := Lib.hid (fun w' h => ⟨cell_below h (hc2 _ _ hat.1) (block_of_cell (hc2 _ _ hat.1)), cell_below h (hc2 _ _ hat.2.1) (block_of_cell (hc2 _ _ hat.2.1)), cell_below h (hc2 _ _ hat.2.2) (block_of_cell (hc2 _ _ hat.2.2))⟩)
      have k0 : (0 : Int) ≤ k := by omega
      have k1 : (k : Int) < r := by omega
      have HK := Lib.hid (And.intro k0 k1)
      clear hc2 hat ht hxl hxi hxw
      go_wp2_with fail
      go_loopw [12] (fun i wr => ∃ j : Nat, j ≤ k ∧ i = .int .i64 j ∧ Hid (Below w1.heap.size w1 wr)) (fun i _ => k - (intOf i).toNat)
      case atStart => exact ⟨0, Nat.zero_le _, rfl, HB⟩
      case round =>
        obtain ⟨j, hj, rfl, HB2⟩ := hrel
        obtain ⟨k0, k1⟩ := HK.out
        have j0 : (0 : Int) ≤ j := by omega
        by_cases hlj : j < k
        · obtain ⟨s, hs⟩ : ∃ s, T[j]? = some s := ⟨_, List.getElem?_eq_getElem (by have := HN.out.2; omega)⟩
          have hat := tileCells_at T j s hs
          obtain ⟨yl, hyl⟩ : ∃ x : Int, (s.1 : Int) = x := ⟨_, rfl⟩
          obtain ⟨yi, hyi⟩ : ∃ x : Int, (s.2.1 : Int) = x := ⟨_, rfl⟩
          obtain ⟨yw, hyw⟩ : ∃ x : Int, (s.2.2 : Int) = x := ⟨_, rfl⟩
          have hqe := fun w' => tile_eq t s (HX.out.2.2.2.2.2.2 t (List.mem_of_getElem? HTT.out)) (HX.out.2.2.2.2.2.2 s (List.mem_of_getElem? hs)) w'
          have hne : decide (t = s) = false := by
            simp only [decide_eq_false_iff_not]
            intro e
            subst e
            have h1 := List.getElem?_eq_some_iff.1 HTT.out
            have h2 := List.getElem?_eq_some_iff.1 hs
            have := (List.pairwise_iff_getElem.1 HX.out.2.2.2.1) j k h2.1 h1.1 hlj
            rw [h1.2, h2.2] at this
            exact this rfl
          rw [hne] at hqe
          unfold tileV at hqe
          rw [hyl, hyi, hyw] at hat hqe
          rw [HXS.out.1, HXS.out.2.1, HXS.out.2.2] at hqe
          have f0 := cell_below HB2.out (HCL.out _ _ hat.1) (block_of_cell (HCL.out _ _ hat.1))
          have f1 := cell_below HB2.out (HCL.out _ _ hat.2.1) (block_of_cell (HCL.out _ _ hat.2.1))
          have f2 := cell_below HB2.out (HCL.out _ _ hat.2.2) (block_of_cell (HCL.out _ _ hat.2.2))
          obtain ⟨d0, d1, d2⟩ := KT0.out wr HB2.out
          have j1 : (j : Int) < k := by omega
          have j2 : (j : Int) < r := by omega
          clear hat hs hyl hyi hyw
          go_wp2_with fail
          go_quiet (fail)
          go_wp2
          go_roundw
          case rel => exact ⟨j + 1, by omega, by go_num, Lib.hid (below_drewN HB2.out)⟩
          case measure => simp [intOf]; omega
        · obtain rfl : k = j := by omega
          obtain ⟨tv, htv⟩ : ∃ tv : Array Value, tv = #[.int .u8 xl, .int .u64 xi, .int .i64 xw] := ⟨_, rfl⟩
          have HTV := Lib.hid htv
          have Ztv : Hid (tv.size = 3) := Lib.hid (by rw [htv]; rfl)
          have Itv : Hid ((Tryd.prog.info? 84).map (·.size) = some tv.size) := Lib.hid (by rw [htv]; kernel_rfl)
          have Otv : Hid (tv.all (·.oneCell') = true) := Lib.hid (by rw [htv]; simp [Value.oneCell'])
          have HIN : Hid (∀ w', Calls Tryd.prog 42 #[.int .u8 xl, .int .u64 xi, .int .u64 aI] w' fun ev w2 => ev = .returned (.tuple #[.agg tv, .bool true]) ∧ Below w'.heap.size w' w2) := Lib.hid (fun w' => by
            obtain ⟨p, hp, c, hcp, e⟩ := HX.out.2.2.2.2.1 t (List.mem_of_getElem? HTT.out)
            have := tile_in_nat c all w' (HX.out.1 p hp c hcp) HX.out.2.1
            obtain ⟨z1, z2, z3⟩ := HXS.out
            rw [e] at this
            have e1 : (tlev c : Int) = xl := by rw [← z1, ← e]; rfl
            have e2 : (tidx c : Int) = xi := by rw [← z2, ← e]; rfl
            unfold tileV at this
            rw [e1, e2, HAI.out, z1, z2, z3, ← htv] at this
            exact this)
          have KT : Hid (∀ w', Gr wr w' → w'.cell? ⟨g2, k * 3, none⟩ = some (.int .u8 xl) ∧ w'.cell? ⟨g2, k * 3 + 1, none⟩ = some (.int .u64 xi) ∧ w'.cell? ⟨g2, k * 3 + 2, none⟩ = some (.int .i64 xw)) := Lib.hid (fun w' h => KT0.out w' (HB2.out.trans (Below.mono h HB2.out.size)))
          clear htv
          go_wp2_with fail
          refine wp_region_held_drew (S := Gr wr) (by kernel_rfl) (Gr.drew (Gr.refl _)) (fun hHeld => ?_)
          refine wpAnyH_take (i := 0) (v := ?tv1) rfl (by kernel_rfl) (by kernel_rfl) (by kernel_rfl) (fun _ _ _ h => h) (Or.inl ⟨by rfl, ?ty1⟩) (by assumption) ?tr1
          case ty1 => (intro w hSw; (try dsimp only at hSw); go_simp; (try with_reducible rfl))
          try simp only [Act.put, List.getElem_toArray, List.getElem_cons_zero, List.setIfInBounds_toArray, List.set_cons_zero, List.set_cons_succ]
          refine wpAnyH_take (i := 1) (v := ?tv2) rfl (by kernel_rfl) (by kernel_rfl) (by kernel_rfl) (fun _ _ _ h => h) (Or.inl ⟨by rfl, ?ty2⟩) (by assumption) ?tr2
          case ty2 => (intro w hSw; (try dsimp only at hSw); go_simp; (try with_reducible rfl))
          try simp only [Act.put, List.getElem_toArray, List.getElem_cons_zero, List.getElem_cons_succ, List.setIfInBounds_toArray, List.set_cons_zero, List.set_cons_succ]
          refine wpAnyH_take (i := 2) (v := ?tv3) rfl (by kernel_rfl) (by kernel_rfl) (by kernel_rfl) (fun _ _ _ h => h) (Or.inl ⟨by rfl, ?ty3⟩) (by assumption) ?tr3
          case ty3 => (intro w hSw; (try dsimp only at hSw); go_simp; (try with_reducible rfl))
          try simp only [Act.put, List.getElem_toArray, List.getElem_cons_zero, List.getElem_cons_succ, List.setIfInBounds_toArray, List.set_cons_zero, List.set_cons_succ]
          refine wpAnyH_take (i := 3) (v := ?tv4) rfl (by kernel_rfl) (by kernel_rfl) (by kernel_rfl) (fun _ _ _ h => h) (Or.inl ⟨by rfl, ?ty4⟩) (by assumption) ?tr4
          case ty4 => (intro w hSw; (try dsimp only at hSw); go_simp; (try with_reducible rfl))
          try simp only [Act.put, List.getElem_toArray, List.getElem_cons_zero, List.getElem_cons_succ, List.setIfInBounds_toArray, List.set_cons_zero, List.set_cons_succ]
          refine wpAnyH_take (i := 4) (v := ?tv5) rfl (by kernel_rfl) (by kernel_rfl) (by kernel_rfl) (fun _ _ _ h => h) (Or.inl ⟨by rfl, ?ty5⟩) (by assumption) ?tr5
          case ty5 => (intro w hSw; (try dsimp only at hSw); obtain ⟨q1, q2, q3⟩ := KT.out w hSw; have q4 := block_of_cell q1; go_simp; (try with_reducible rfl))
          try simp only [Act.put, List.getElem_toArray, List.getElem_cons_zero, List.getElem_cons_succ, List.setIfInBounds_toArray, List.set_cons_zero, List.set_cons_succ]
          refine wpAnyH_take (i := 5) (v := ?tv6) rfl (by kernel_rfl) (by kernel_rfl) (by kernel_rfl) (fun _ _ _ h => h) (Or.inl ⟨by rfl, ?ty6⟩) (by assumption) ?tr6
          case ty6 => (intro w hSw; (try dsimp only at hSw); go_simp; (try with_reducible rfl))
          try simp only [Act.put, List.getElem_toArray, List.getElem_cons_zero, List.getElem_cons_succ, List.setIfInBounds_toArray, List.set_cons_zero, List.set_cons_succ]
          refine wpAnyH_take (i := 6) (v := ?tv7) rfl (by kernel_rfl) (by kernel_rfl) (by kernel_rfl) (fun _ _ _ h => h) (Or.inl ⟨by rfl, ?ty7⟩) (by assumption) ?tr7
          case ty7 => (intro w hSw; (try dsimp only at hSw); go_simp; (try with_reducible rfl))
          try simp only [Act.put, List.getElem_toArray, List.getElem_cons_zero, List.getElem_cons_succ, List.setIfInBounds_toArray, List.set_cons_zero, List.set_cons_succ]
          refine wpAnyH_take (i := 7) (v := ?tv8) rfl (by kernel_rfl) (by kernel_rfl) (by kernel_rfl) (fun _ _ _ h => h) (Or.inl ⟨by rfl, ?ty8⟩) (by assumption) ?tr8
          case ty8 => (intro w hSw; (try dsimp only at hSw); go_simp; (try with_reducible rfl))
          try simp only [Act.put, List.getElem_toArray, List.getElem_cons_zero, List.getElem_cons_succ, List.setIfInBounds_toArray, List.set_cons_zero, List.set_cons_succ]
          refine wpAnyH_take (i := 8) (v := ?tv9) rfl (by kernel_rfl) (by kernel_rfl) (by kernel_rfl) (fun _ _ _ h => h) (Or.inl ⟨by rfl, ?ty9⟩) (by assumption) ?tr9
          case ty9 => (intro w hSw; (try dsimp only at hSw); go_simp; (try with_reducible rfl))
          try simp only [Act.put, List.getElem_toArray, List.getElem_cons_zero, List.getElem_cons_succ, List.setIfInBounds_toArray, List.set_cons_zero, List.set_cons_succ]
          refine wpAnyH_take (i := 9) (v := ?tv10) rfl (by kernel_rfl) (by kernel_rfl) (by kernel_rfl) (fun _ _ _ h => h) (Or.inl ⟨by rfl, ?ty10⟩) (by assumption) ?tr10
          case ty10 => (intro w hSw; (try dsimp only at hSw); obtain ⟨q1, q2, q3⟩ := KT.out w hSw; have q4 := block_of_cell q1; go_simp; (try with_reducible rfl))
          try simp only [Act.put, List.getElem_toArray, List.getElem_cons_zero, List.getElem_cons_succ, List.setIfInBounds_toArray, List.set_cons_zero, List.set_cons_succ]
          refine wpAnyH_take (i := 10) (v := ?tv11) rfl (by kernel_rfl) (by kernel_rfl) (by kernel_rfl) (fun _ _ _ h => h) (Or.inl ⟨by rfl, ?ty11⟩) (by assumption) ?tr11
          case ty11 => (intro w hSw; (try dsimp only at hSw); go_simp; (try with_reducible rfl))
          try simp only [Act.put, List.getElem_toArray, List.getElem_cons_zero, List.getElem_cons_succ, List.setIfInBounds_toArray, List.set_cons_zero, List.set_cons_succ]
          refine wpAnyH_ready (rs := [11, 15]) (by kernel_rfl) (by simp) ?_
          refine AllReadyH.cons (i := 11) rfl (fun K2 hK2 => ?_) ?more12
          · skip
            go_simp
            go_at_call 42
            refine (HIN.out wr.drew).mono ?_
            rintro ev w101 ⟨rfl, b101⟩
            try go_wp2_with fail
            refine hK2.out _ _ (show Gr wr _ from (by repeat (first | exact Gr.refl _ | (refine Gr.step ?_ (by assumption)) | (refine Gr.alloc ?_ _) | (refine Gr.drew ?_)))) (fun hHeld2 => ?_)
            clear hK2 K2
            try simp only [Act.put, List.getElem_toArray, List.getElem_cons_zero, List.getElem_cons_succ, List.setIfInBounds_toArray, List.set_cons_zero, List.set_cons_succ]
            refine wpAnyH_take (i := 12) (v := ?tv13) rfl (by kernel_rfl) (by kernel_rfl) (by kernel_rfl) (fun _ _ _ h => h) (Or.inl ⟨by rfl, ?ty13⟩) (by assumption) ?tr13
            case ty13 => (intro w hSw; (try dsimp only at hSw); go_simp; (try with_reducible rfl))
            try simp only [Act.put, List.getElem_toArray, List.getElem_cons_zero, List.getElem_cons_succ, List.setIfInBounds_toArray, List.set_cons_zero, List.set_cons_succ]
            refine wpAnyH_take (i := 13) (v := ?tv14) rfl (by kernel_rfl) (by kernel_rfl) (by kernel_rfl) (fun _ _ _ h => h) (Or.inl ⟨by rfl, ?ty14⟩) (by assumption) ?tr14
            case ty14 => (intro w hSw; (try dsimp only at hSw); go_simp; (try with_reducible rfl))
            try simp only [Act.put, List.getElem_toArray, List.getElem_cons_zero, List.getElem_cons_succ, List.setIfInBounds_toArray, List.set_cons_zero, List.set_cons_succ]
            refine wpAnyH_take (i := 14) (v := ?tv15) rfl (by kernel_rfl) (by kernel_rfl) (by kernel_rfl) (fun _ _ _ h => h) (Or.inl ⟨by rfl, ?ty15⟩) (by assumption) ?tr15
            case ty15 => (intro w hSw; (try dsimp only at hSw); go_simp; (try with_reducible rfl))
            try simp only [Act.put, List.getElem_toArray, List.getElem_cons_zero, List.getElem_cons_succ, List.setIfInBounds_toArray, List.set_cons_zero, List.set_cons_succ]
            refine wpAnyH_ready (rs := [15]) (by kernel_rfl) (by simp) ?_
            refine AllReadyH.cons (i := 15) rfl (fun K2 hK2 => ?_) AllReadyH.nil
            go_simp
            obtain ⟨wl102, hwl102⟩ : ∃ x, (w101.alloc (.cells #[.int .u8 0, .int .u64 0, .int .i64 0] 84)) = x := ⟨_, rfl⟩
            have bwl102 : Below w101.heap.size w101 wl102 := by rw [← hwl102]; exact ((Below.refl _ _).alloc (Nat.le_refl _) _)
            have Rwl102 : Hid (wl102.heap[w101.heap.size]? = some (.cells #[.int .u8 0, .int .u64 0, .int .i64 0] 84 (0, 0))) := Lib.hid (by rw [← hwl102]; exact heap_alloc_new _ _)
            have Swl102 : w101.heap.size + 1 = wl102.heap.size := by rw [← hwl102]; simp
            rw [hwl102]
            clear hwl102
            refine hK2.out _ _ (show Gr wr _ from (by repeat (first | exact Gr.refl _ | (refine Gr.step ?_ (by assumption)) | (refine Gr.alloc ?_ _) | (refine Gr.drew ?_)))) (fun hHeld2 => ?_)
            clear hK2 K2
            try simp only [Act.put, List.getElem_toArray, List.getElem_cons_zero, List.getElem_cons_succ, List.setIfInBounds_toArray, List.set_cons_zero, List.set_cons_succ]
            refine wpAnyH_ready (rs := [16]) (by kernel_rfl) (by simp) ?_
            refine AllReadyH.cons (i := 16) rfl (fun K2 hK2 => ?_) AllReadyH.nil
            rw [if_pos (by rfl)]
            refine wp_store_row 84 _ _ rfl w101.heap.size tv rfl rfl 84 _ (Rwl102.out) Itv.out (by rw [Ztv.out]; rfl) Otv.out ?_
            refine hK2.out _ _ (show Gr wr _ from below_setRow (show Gr wr wl102 from (by repeat (first | exact Gr.refl _ | (refine Gr.step ?_ (by assumption)) | (refine Gr.alloc ?_ _) | (refine Gr.drew ?_)))) _ _ (by have := (show Gr wr w101 from (by repeat (first | exact Gr.refl _ | (refine Gr.step ?_ (by assumption)) | (refine Gr.alloc ?_ _) | (refine Gr.drew ?_)))).size; omega)) (fun hHeld2 => ?_)
            clear hK2 K2
            try simp only [Act.put, List.getElem_toArray, List.getElem_cons_zero, List.getElem_cons_succ]
            refine wpAnyH_take (i := 17) (v := ?tv16) rfl (by kernel_rfl) (by kernel_rfl) (by kernel_rfl) (fun _ _ _ h => h) (Or.inl ⟨by rfl, ?ty16⟩) (by assumption) ?tr16
            case ty16 => (intro w hSw; (try dsimp only at hSw); go_simp; (try with_reducible rfl))
            try simp only [Act.put, List.getElem_toArray, List.getElem_cons_zero, List.getElem_cons_succ, List.setIfInBounds_toArray, List.set_cons_zero, List.set_cons_succ]
            refine wpAnyH_done (by kernel_rfl) ?_ _
            obtain ⟨wq, hwq⟩ : ∃ x, wl102.setRow w101.heap.size tv = x := ⟨_, rfl⟩
            have HQ : Hid (Gr wr wq ∧ wq.heap[w101.heap.size]? = some (.cells tv 84 (0, 0))) := Lib.hid ⟨by rw [← hwq]; exact hHeld2, by rw [← hwq]; exact setRow_heap _ _ _ _ _ _ (Rwl102.out)⟩
            obtain ⟨ub, hub⟩ : ∃ x, w101.heap.size = x := ⟨_, rfl⟩
            rw [hwq]
            rw [hub] at HQ ⊢
            have HKEEP := Lib.hid (show Below w1.heap.size w1 wq from HB2.out.trans (HQ.out.1.mono HB2.out.size))
            have hrq := HQ.out.2
            rw [HTV.out] at hrq
            have u0 : wq.cell? ⟨ub, 0, none⟩ = some (.int .u8 xl) := by rw [cell_of_row _ _ 0 _ _ _ hrq]; rfl
            have u1 : wq.cell? ⟨ub, 1, none⟩ = some (.int .u64 xi) := by rw [cell_of_row _ _ 1 _ _ _ hrq]; rfl
            have u2 : wq.cell? ⟨ub, 2, none⟩ = some (.int .i64 xw) := by rw [cell_of_row _ _ 2 _ _ _ hrq]; rfl
            obtain ⟨d0, d1, d2⟩ := KT0.out wq HKEEP.out
            obtain ⟨k0, k1⟩ := HK.out
            clear hrq
            go_wp2_with fail
            go_quiet (fail)
            obtain ⟨nq9, hnq9⟩ : ∃ m : Nat, m = nq := ⟨nq, rfl⟩
            obtain ⟨wk, hwk⟩ : ∃ x, wq.drewN nq = x := ⟨_, rfl⟩
            have HWK : Hid (Below w1.heap.size w1 wk) := Lib.hid (by rw [← hwk]; exact below_drewN HKEEP.out)
            rw [hwk]
            clear hwk u0 u1 u2 d0 d1 d2
            go_wp2_with fail
            go_loopw [10, 15] (fun u i wr => ∃ j : Nat, j ≤ n ∧ i = .int .i64 j ∧ u = .int .i64 k ∧ Hid (Below w1.heap.size w1 wr) ∧ Hid (∀ j' p', j' < j → ps[j']? = some p' → p'.any (fun c => hits c t) = false)) (fun _ i _ => n - (intOf i).toNat)
            case atStart => exact ⟨0, Nat.zero_le _, rfl, rfl, HWK, Lib.hid (fun j' p' h => by omega)⟩
            case round =>
              obtain ⟨j, hj, rfl, rfl, HB7, HF⟩ := hrel
              by_cases hln : j < n
              · obtain ⟨g1, rfl, hc1⟩ : ∃ g, A1 = some ⟨g, 0, none⟩ ∧ ∀ j u, vs[j]? = some u → w.cell? ⟨g, j, none⟩ = some u := by
                  rcases HV.out.1 with q | q
                  · omega
                  · exact q
                obtain ⟨p, hp⟩ : ∃ p, ps[j]? = some p := ⟨_, List.getElem?_eq_getElem (by have := HN.out.1; omega)⟩
                obtain ⟨u, hu, ru⟩ := HV.out.2 j p hp
                have hpm := List.mem_of_getElem? hp
                have HPJ := Lib.hid hp
                have a0 := hc1 j _ hu
                have KW : Hid (∀ w', Gr wr w' → Below w1.heap.size w1 w') := Lib.hid (fun w' h => HB7.out.trans (Below.mono h HB7.out.size))
                have KW0 : Hid (∀ w', Gr wr w' → Below w.heap.size w w') := Lib.hid (fun w' h => HB1.out.trans ((KW.out w' h).mono HB1.out.size))
                have KT2 : Hid (∀ w', Gr wr w' → w'.cell? ⟨g2, k * 3, none⟩ = some (.int .u8 xl) ∧ w'.cell? ⟨g2, k * 3 + 1, none⟩ = some (.int .u64 xi) ∧ w'.cell? ⟨g2, k * 3 + 2, none⟩ = some (.int .i64 xw)) := Lib.hid (fun w' h => KT0.out w' (KW.out w' h))
                have KV2 : Hid (∀ w', Gr wr w' → w'.cell? ⟨g1, j, none⟩ = some u) := Lib.hid (fun w' h => cell_below (KW0.out w' h) a0 (block_of_cell a0))
                obtain ⟨b, hb⟩ : ∃ b, p.any (fun c => hits c t) = b := ⟨_, rfl⟩
                have HB20 := Lib.hid hb
                have HNE : Hid (∀ w', Gr wr w' → Calls Tryd.prog 43 #[.agg #[u], .agg #[.int .u8 xl, .int .u64 xi, .int .i64 xw]] w' fun ev w2 => ev = .returned (.bool b) ∧ Below w'.heap.size w' w2) := Lib.hid (fun w' h => by
                  have := needs_any p t all u w' (ru.below (KW0.out w' h)) (HX.out.1 p hpm) HX.out.2.1 (by have := HX.out.2.2.1 p hpm; omega) (HX.out.2.2.2.2.2.2 t (List.mem_of_getElem? HTT.out))
                  unfold tileV at this
                  rw [HXS.out.1, HXS.out.2.1, HXS.out.2.2, hb] at this
                  exact this)
                have j0 : (0 : Int) ≤ j := by omega
                have j1 : (j : Int) < n := by omega
                obtain ⟨k0, k1⟩ := HK.out
                obtain ⟨A5, n5, c5, rfl⟩ : ∃ A5 n5 c5, u = .slice A5 n5 c5 := by
                  obtain ⟨_, A5, c5, e5, _⟩ := ru
                  exact ⟨A5, _, c5, e5⟩
                clear hc1 hp hu ru hpm a0
                go_wp2_with fail
                refine wp_region_held_drew (S := Gr wr) (by kernel_rfl) (Gr.drew (Gr.refl _)) (fun hHeld => ?_)
                refine wpAnyH_take (i := 0) (v := ?tv17) rfl (by kernel_rfl) (by kernel_rfl) (by kernel_rfl) (fun _ _ _ h => h) (Or.inl ⟨by rfl, ?ty17⟩) (by assumption) ?tr17
                case ty17 => (intro w hSw; (try dsimp only at hSw); go_simp; (try with_reducible rfl))
                try simp only [Act.put, List.getElem_toArray, List.getElem_cons_zero, List.setIfInBounds_toArray, List.set_cons_zero, List.set_cons_succ]
                refine wpAnyH_take (i := 1) (v := ?tv18) rfl (by kernel_rfl) (by kernel_rfl) (by kernel_rfl) (fun _ _ _ h => h) (Or.inl ⟨by rfl, ?ty18⟩) (by assumption) ?tr18
                case ty18 => (intro w hSw; (try dsimp only at hSw); go_simp; (try with_reducible rfl))
                try simp only [Act.put, List.getElem_toArray, List.getElem_cons_zero, List.getElem_cons_succ, List.setIfInBounds_toArray, List.set_cons_zero, List.set_cons_succ]
                refine wpAnyH_take (i := 2) (v := ?tv19) rfl (by kernel_rfl) (by kernel_rfl) (by kernel_rfl) (fun _ _ _ h => h) (Or.inl ⟨by rfl, ?ty19⟩) (by assumption) ?tr19
                case ty19 => (intro w hSw; (try dsimp only at hSw); go_simp; (try with_reducible rfl))
                try simp only [Act.put, List.getElem_toArray, List.getElem_cons_zero, List.getElem_cons_succ, List.setIfInBounds_toArray, List.set_cons_zero, List.set_cons_succ]
                refine wpAnyH_take (i := 3) (v := ?tv20) rfl (by kernel_rfl) (by kernel_rfl) (by kernel_rfl) (fun _ _ _ h => h) (Or.inl ⟨by rfl, ?ty20⟩) (by assumption) ?tr20
                case ty20 => (intro w hSw; (try dsimp only at hSw); obtain ⟨q1, q2, q3⟩ := KT2.out w hSw; have q4 := block_of_cell q1; have q5 := KV2.out w hSw; have q6 := block_of_cell q5; go_simp; (try with_reducible rfl))
                try simp only [Act.put, List.getElem_toArray, List.getElem_cons_zero, List.getElem_cons_succ, List.setIfInBounds_toArray, List.set_cons_zero, List.set_cons_succ]
                refine wpAnyH_take (i := 4) (v := ?tv21) rfl (by kernel_rfl) (by kernel_rfl) (by kernel_rfl) (fun _ _ _ h => h) (Or.inl ⟨by rfl, ?ty21⟩) (by assumption) ?tr21
                case ty21 => (intro w hSw; (try dsimp only at hSw); go_simp; (try with_reducible rfl))
                try simp only [Act.put, List.getElem_toArray, List.getElem_cons_zero, List.getElem_cons_succ, List.setIfInBounds_toArray, List.set_cons_zero, List.set_cons_succ]
                refine wpAnyH_take (i := 5) (v := ?tv22) rfl (by kernel_rfl) (by kernel_rfl) (by kernel_rfl) (fun _ _ _ h => h) (Or.inl ⟨by rfl, ?ty22⟩) (by assumption) ?tr22
                case ty22 => (intro w hSw; (try dsimp only at hSw); go_simp; (try with_reducible rfl))
                try simp only [Act.put, List.getElem_toArray, List.getElem_cons_zero, List.getElem_cons_succ, List.setIfInBounds_toArray, List.set_cons_zero, List.set_cons_succ]
                refine wpAnyH_take (i := 6) (v := ?tv23) rfl (by kernel_rfl) (by kernel_rfl) (by kernel_rfl) (fun _ _ _ h => h) (Or.inl ⟨by rfl, ?ty23⟩) (by assumption) ?tr23
                case ty23 => (intro w hSw; (try dsimp only at hSw); go_simp; (try with_reducible rfl))
                try simp only [Act.put, List.getElem_toArray, List.getElem_cons_zero, List.getElem_cons_succ, List.setIfInBounds_toArray, List.set_cons_zero, List.set_cons_succ]
                refine wpAnyH_take (i := 7) (v := ?tv24) rfl (by kernel_rfl) (by kernel_rfl) (by kernel_rfl) (fun _ _ _ h => h) (Or.inl ⟨by rfl, ?ty24⟩) (by assumption) ?tr24
                case ty24 => (intro w hSw; (try dsimp only at hSw); obtain ⟨q1, q2, q3⟩ := KT2.out w hSw; have q4 := block_of_cell q1; have q5 := KV2.out w hSw; have q6 := block_of_cell q5; go_simp; (try with_reducible rfl))
                try simp only [Act.put, List.getElem_toArray, List.getElem_cons_zero, List.getElem_cons_succ, List.setIfInBounds_toArray, List.set_cons_zero, List.set_cons_succ]
                refine wpAnyH_ready (rs := [8]) (by kernel_rfl) (by simp) ?_
                refine AllReadyH.cons (i := 8) rfl (fun K2 hK2 => ?_) AllReadyH.nil
                go_simp
                go_at_call 43
                refine (HNE.out wr.drew (show Gr wr wr.drew from (by repeat (first | exact Gr.refl _ | (refine Gr.step ?_ (by assumption)) | (refine Gr.alloc ?_ _) | (refine Gr.drew ?_))))).mono ?_
                rintro ev w104 ⟨rfl, b104⟩
                try go_wp2_with fail
                refine hK2.out _ _ (show Gr wr _ from (by repeat (first | exact Gr.refl _ | (refine Gr.step ?_ (by assumption)) | (refine Gr.alloc ?_ _) | (refine Gr.drew ?_)))) (fun hHeld2 => ?_)
                clear hK2 K2
                try simp only [Act.put, List.getElem_toArray, List.getElem_cons_zero, List.getElem_cons_succ, List.setIfInBounds_toArray, List.set_cons_zero, List.set_cons_succ]
                refine wpAnyH_done (by kernel_rfl) ?_ _
                skip
                cases hbb : b with
                | true =>
                  have HFN := Lib.hid (KW.out _ hHeld2)
                  obtain ⟨k0, k1⟩ := HK.out
                  go_wp2
                  go_roundw
                  case rel => exact ⟨k + 1, by omega, by go_num, by go_num, HFN⟩
                  case measure => simp [intOf]; omega
                | false =>
                  have HFN := Lib.hid (KW.out _ hHeld2)
                  have HFF : Hid (∀ j' p', j' < j + 1 → ps[j']? = some p' → p'.any (fun c => hits c t) = false) := Lib.hid (fun j' p' hj' h' => by
                    by_cases q : j' = j
                    · subst q; rw [HPJ.out] at h'; cases h'; rw [HB20.out, hbb]
                    · exact HF.out j' p' (by omega) h')
                  go_wp2
                  go_roundw
                  case rel => exact ⟨j + 1, by omega, by go_num, by first | rfl | go_num, HFN, HFF⟩
                  case measure => simp [intOf]; omega
              · exfalso
                obtain ⟨p, hp, c, hcp, e⟩ := HX.out.2.2.2.2.1 t (List.mem_of_getElem? HTT.out)
                obtain ⟨j', hj', ep⟩ := List.getElem_of_mem hp
                have h0 := HF.out j' p (by have := HN.out.1; omega) (by rw [List.getElem?_eq_getElem hj', ep])
                have h1 : p.any (fun c => hits c t) = true := List.any_eq_true.2 ⟨c, hcp, by rw [← e]; exact hits_tile all c⟩
                rw [h0] at h1
                cases h1

          refine AllReadyH.cons (i := 15) rfl (fun K2 hK2 => ?_) ?more25
          · skip
            go_simp
            obtain ⟨wl105, hwl105⟩ : ∃ x, (wr.alloc (.cells #[.int .u8 0, .int .u64 0, .int .i64 0] 84)).drew = x := ⟨_, rfl⟩
            have bwl105 : Below wr.heap.size wr wl105 := by rw [← hwl105]; exact ((Below.refl _ _).alloc (Nat.le_refl _) _).drew
            have Rwl105 : Hid (wl105.heap[wr.heap.size]? = some (.cells #[.int .u8 0, .int .u64 0, .int .i64 0] 84 (0, 0))) := Lib.hid (by rw [← hwl105]; exact heap_alloc_new _ _)
            have Swl105 : wr.heap.size + 1 = wl105.heap.size := by rw [← hwl105]; simp
            rw [hwl105]
            clear hwl105
            refine hK2.out _ _ (show Gr wr _ from (by repeat (first | exact Gr.refl _ | (refine Gr.step ?_ (by assumption)) | (refine Gr.alloc ?_ _) | (refine Gr.drew ?_)))) (fun hHeld2 => ?_)
            clear hK2 K2
            try simp only [Act.put, List.getElem_toArray, List.getElem_cons_zero, List.getElem_cons_succ, List.setIfInBounds_toArray, List.set_cons_zero, List.set_cons_succ]
            refine wpAnyH_ready (rs := [11]) (by kernel_rfl) (by simp) ?_
            refine AllReadyH.cons (i := 11) rfl (fun K2 hK2 => ?_) AllReadyH.nil
            go_simp
            go_at_call 42
            refine (HIN.out wl105).mono ?_
            rintro ev w106 ⟨rfl, b106⟩
            try go_wp2_with fail
            refine hK2.out _ _ (show Gr wr _ from (by repeat (first | exact Gr.refl _ | (refine Gr.step ?_ (by assumption)) | (refine Gr.alloc ?_ _) | (refine Gr.drew ?_)))) (fun hHeld2 => ?_)
            clear hK2 K2
            try simp only [Act.put, List.getElem_toArray, List.getElem_cons_zero, List.getElem_cons_succ, List.setIfInBounds_toArray, List.set_cons_zero, List.set_cons_succ]
            refine wpAnyH_take (i := 12) (v := ?tv26) rfl (by kernel_rfl) (by kernel_rfl) (by kernel_rfl) (fun _ _ _ h => h) (Or.inl ⟨by rfl, ?ty26⟩) (by assumption) ?tr26
            case ty26 => (intro w hSw; (try dsimp only at hSw); go_simp; (try with_reducible rfl))
            try simp only [Act.put, List.getElem_toArray, List.getElem_cons_zero, List.getElem_cons_succ, List.setIfInBounds_toArray, List.set_cons_zero, List.set_cons_succ]
            refine wpAnyH_take (i := 13) (v := ?tv27) rfl (by kernel_rfl) (by kernel_rfl) (by kernel_rfl) (fun _ _ _ h => h) (Or.inl ⟨by rfl, ?ty27⟩) (by assumption) ?tr27
            case ty27 => (intro w hSw; (try dsimp only at hSw); go_simp; (try with_reducible rfl))
            try simp only [Act.put, List.getElem_toArray, List.getElem_cons_zero, List.getElem_cons_succ, List.setIfInBounds_toArray, List.set_cons_zero, List.set_cons_succ]
            refine wpAnyH_take (i := 14) (v := ?tv28) rfl (by kernel_rfl) (by kernel_rfl) (by kernel_rfl) (fun _ _ _ h => h) (Or.inl ⟨by rfl, ?ty28⟩) (by assumption) ?tr28
            case ty28 => (intro w hSw; (try dsimp only at hSw); go_simp; (try with_reducible rfl))
            try simp only [Act.put, List.getElem_toArray, List.getElem_cons_zero, List.getElem_cons_succ, List.setIfInBounds_toArray, List.set_cons_zero, List.set_cons_succ]
            refine wpAnyH_ready (rs := [16]) (by kernel_rfl) (by simp) ?_
            refine AllReadyH.cons (i := 16) rfl (fun K2 hK2 => ?_) AllReadyH.nil
            rw [if_pos (by rfl)]
            refine wp_store_row 84 _ _ rfl wr.heap.size tv rfl rfl 84 _ (((show Below wl105.heap.size wl105 w106 from b106).block _ (by omega)).trans Rwl105.out) Itv.out (by rw [Ztv.out]; rfl) Otv.out ?_
            refine hK2.out _ _ (show Gr wr _ from below_setRow (show Gr wr w106 from (by repeat (first | exact Gr.refl _ | (refine Gr.step ?_ (by assumption)) | (refine Gr.alloc ?_ _) | (refine Gr.drew ?_)))) _ _ (by have := (show Gr wr wr from (by repeat (first | exact Gr.refl _ | (refine Gr.step ?_ (by assumption)) | (refine Gr.alloc ?_ _) | (refine Gr.drew ?_)))).size; omega)) (fun hHeld2 => ?_)
            clear hK2 K2
            try simp only [Act.put, List.getElem_toArray, List.getElem_cons_zero, List.getElem_cons_succ]
            refine wpAnyH_take (i := 17) (v := ?tv29) rfl (by kernel_rfl) (by kernel_rfl) (by kernel_rfl) (fun _ _ _ h => h) (Or.inl ⟨by rfl, ?ty29⟩) (by assumption) ?tr29
            case ty29 => (intro w hSw; (try dsimp only at hSw); go_simp; (try with_reducible rfl))
            try simp only [Act.put, List.getElem_toArray, List.getElem_cons_zero, List.getElem_cons_succ, List.setIfInBounds_toArray, List.set_cons_zero, List.set_cons_succ]
            refine wpAnyH_done (by kernel_rfl) ?_ _
            obtain ⟨wq, hwq⟩ : ∃ x, w106.setRow wr.heap.size tv = x := ⟨_, rfl⟩
            have HQ : Hid (Gr wr wq ∧ wq.heap[wr.heap.size]? = some (.cells tv 84 (0, 0))) := Lib.hid ⟨by rw [← hwq]; exact hHeld2, by rw [← hwq]; exact setRow_heap _ _ _ _ _ _ (((show Below wl105.heap.size wl105 w106 from b106).block _ (by omega)).trans Rwl105.out)⟩
            obtain ⟨ub, hub⟩ : ∃ x, wr.heap.size = x := ⟨_, rfl⟩
            rw [hwq]
            rw [hub] at HQ ⊢
            have HKEEP := Lib.hid (show Below w1.heap.size w1 wq from HB2.out.trans (HQ.out.1.mono HB2.out.size))
            have hrq := HQ.out.2
            rw [HTV.out] at hrq
            have u0 : wq.cell? ⟨ub, 0, none⟩ = some (.int .u8 xl) := by rw [cell_of_row _ _ 0 _ _ _ hrq]; rfl
            have u1 : wq.cell? ⟨ub, 1, none⟩ = some (.int .u64 xi) := by rw [cell_of_row _ _ 1 _ _ _ hrq]; rfl
            have u2 : wq.cell? ⟨ub, 2, none⟩ = some (.int .i64 xw) := by rw [cell_of_row _ _ 2 _ _ _ hrq]; rfl
            obtain ⟨d0, d1, d2⟩ := KT0.out wq HKEEP.out
            obtain ⟨k0, k1⟩ := HK.out
            clear hrq
            go_wp2_with fail
            go_quiet (fail)
            obtain ⟨nq9, hnq9⟩ : ∃ m : Nat, m = nq := ⟨nq, rfl⟩
            obtain ⟨wk, hwk⟩ : ∃ x, wq.drewN nq = x := ⟨_, rfl⟩
            have HWK : Hid (Below w1.heap.size w1 wk) := Lib.hid (by rw [← hwk]; exact below_drewN HKEEP.out)
            rw [hwk]
            clear hwk u0 u1 u2 d0 d1 d2
            go_wp2_with fail
            go_loopw [10, 15] (fun u i wr => ∃ j : Nat, j ≤ n ∧ i = .int .i64 j ∧ u = .int .i64 k ∧ Hid (Below w1.heap.size w1 wr) ∧ Hid (∀ j' p', j' < j → ps[j']? = some p' → p'.any (fun c => hits c t) = false)) (fun _ i _ => n - (intOf i).toNat)
            case atStart => exact ⟨0, Nat.zero_le _, rfl, rfl, HWK, Lib.hid (fun j' p' h => by omega)⟩
            case round =>
              obtain ⟨j, hj, rfl, rfl, HB7, HF⟩ := hrel
              by_cases hln : j < n
              · obtain ⟨g1, rfl, hc1⟩ : ∃ g, A1 = some ⟨g, 0, none⟩ ∧ ∀ j u, vs[j]? = some u → w.cell? ⟨g, j, none⟩ = some u := by
                  rcases HV.out.1 with q | q
                  · omega
                  · exact q
                obtain ⟨p, hp⟩ : ∃ p, ps[j]? = some p := ⟨_, List.getElem?_eq_getElem (by have := HN.out.1; omega)⟩
                obtain ⟨u, hu, ru⟩ := HV.out.2 j p hp
                have hpm := List.mem_of_getElem? hp
                have HPJ := Lib.hid hp
                have a0 := hc1 j _ hu
                have KW : Hid (∀ w', Gr wr w' → Below w1.heap.size w1 w') := Lib.hid (fun w' h => HB7.out.trans (Below.mono h HB7.out.size))
                have KW0 : Hid (∀ w', Gr wr w' → Below w.heap.size w w') := Lib.hid (fun w' h => HB1.out.trans ((KW.out w' h).mono HB1.out.size))
                have KT2 : Hid (∀ w', Gr wr w' → w'.cell? ⟨g2, k * 3, none⟩ = some (.int .u8 xl) ∧ w'.cell? ⟨g2, k * 3 + 1, none⟩ = some (.int .u64 xi) ∧ w'.cell? ⟨g2, k * 3 + 2, none⟩ = some (.int .i64 xw)) := Lib.hid (fun w' h => KT0.out w' (KW.out w' h))
                have KV2 : Hid (∀ w', Gr wr w' → w'.cell? ⟨g1, j, none⟩ = some u) := Lib.hid (fun w' h => cell_below (KW0.out w' h) a0 (block_of_cell a0))
                obtain ⟨b, hb⟩ : ∃ b, p.any (fun c => hits c t) = b := ⟨_, rfl⟩
                have HB20 := Lib.hid hb
                have HNE : Hid (∀ w', Gr wr w' → Calls Tryd.prog 43 #[.agg #[u], .agg #[.int .u8 xl, .int .u64 xi, .int .i64 xw]] w' fun ev w2 => ev = .returned (.bool b) ∧ Below w'.heap.size w' w2) := Lib.hid (fun w' h => by
                  have := needs_any p t all u w' (ru.below (KW0.out w' h)) (HX.out.1 p hpm) HX.out.2.1 (by have := HX.out.2.2.1 p hpm; omega) (HX.out.2.2.2.2.2.2 t (List.mem_of_getElem? HTT.out))
                  unfold tileV at this
                  rw [HXS.out.1, HXS.out.2.1, HXS.out.2.2, hb] at this
                  exact this)
                have j0 : (0 : Int) ≤ j := by omega
                have j1 : (j : Int) < n := by omega
                obtain ⟨k0, k1⟩ := HK.out
                obtain ⟨A5, n5, c5, rfl⟩ : ∃ A5 n5 c5, u = .slice A5 n5 c5 := by
                  obtain ⟨_, A5, c5, e5, _⟩ := ru
                  exact ⟨A5, _, c5, e5⟩
                clear hc1 hp hu ru hpm a0
                go_wp2_with fail
                refine wp_region_held_drew (S := Gr wr) (by kernel_rfl) (Gr.drew (Gr.refl _)) (fun hHeld => ?_)
                refine wpAnyH_take (i := 0) (v := ?tv30) rfl (by kernel_rfl) (by kernel_rfl) (by kernel_rfl) (fun _ _ _ h => h) (Or.inl ⟨by rfl, ?ty30⟩) (by assumption) ?tr30
                case ty30 => (intro w hSw; (try dsimp only at hSw); go_simp; (try with_reducible rfl))
                try simp only [Act.put, List.getElem_toArray, List.getElem_cons_zero, List.setIfInBounds_toArray, List.set_cons_zero, List.set_cons_succ]
                refine wpAnyH_take (i := 1) (v := ?tv31) rfl (by kernel_rfl) (by kernel_rfl) (by kernel_rfl) (fun _ _ _ h => h) (Or.inl ⟨by rfl, ?ty31⟩) (by assumption) ?tr31
                case ty31 => (intro w hSw; (try dsimp only at hSw); go_simp; (try with_reducible rfl))
                try simp only [Act.put, List.getElem_toArray, List.getElem_cons_zero, List.getElem_cons_succ, List.setIfInBounds_toArray, List.set_cons_zero, List.set_cons_succ]
                refine wpAnyH_take (i := 2) (v := ?tv32) rfl (by kernel_rfl) (by kernel_rfl) (by kernel_rfl) (fun _ _ _ h => h) (Or.inl ⟨by rfl, ?ty32⟩) (by assumption) ?tr32
                case ty32 => (intro w hSw; (try dsimp only at hSw); go_simp; (try with_reducible rfl))
                try simp only [Act.put, List.getElem_toArray, List.getElem_cons_zero, List.getElem_cons_succ, List.setIfInBounds_toArray, List.set_cons_zero, List.set_cons_succ]
                refine wpAnyH_take (i := 3) (v := ?tv33) rfl (by kernel_rfl) (by kernel_rfl) (by kernel_rfl) (fun _ _ _ h => h) (Or.inl ⟨by rfl, ?ty33⟩) (by assumption) ?tr33
                case ty33 => (intro w hSw; (try dsimp only at hSw); obtain ⟨q1, q2, q3⟩ := KT2.out w hSw; have q4 := block_of_cell q1; have q5 := KV2.out w hSw; have q6 := block_of_cell q5; go_simp; (try with_reducible rfl))
                try simp only [Act.put, List.getElem_toArray, List.getElem_cons_zero, List.getElem_cons_succ, List.setIfInBounds_toArray, List.set_cons_zero, List.set_cons_succ]
                refine wpAnyH_take (i := 4) (v := ?tv34) rfl (by kernel_rfl) (by kernel_rfl) (by kernel_rfl) (fun _ _ _ h => h) (Or.inl ⟨by rfl, ?ty34⟩) (by assumption) ?tr34
                case ty34 => (intro w hSw; (try dsimp only at hSw); go_simp; (try with_reducible rfl))
                try simp only [Act.put, List.getElem_toArray, List.getElem_cons_zero, List.getElem_cons_succ, List.setIfInBounds_toArray, List.set_cons_zero, List.set_cons_succ]
                refine wpAnyH_take (i := 5) (v := ?tv35) rfl (by kernel_rfl) (by kernel_rfl) (by kernel_rfl) (fun _ _ _ h => h) (Or.inl ⟨by rfl, ?ty35⟩) (by assumption) ?tr35
                case ty35 => (intro w hSw; (try dsimp only at hSw); go_simp; (try with_reducible rfl))
                try simp only [Act.put, List.getElem_toArray, List.getElem_cons_zero, List.getElem_cons_succ, List.setIfInBounds_toArray, List.set_cons_zero, List.set_cons_succ]
                refine wpAnyH_take (i := 6) (v := ?tv36) rfl (by kernel_rfl) (by kernel_rfl) (by kernel_rfl) (fun _ _ _ h => h) (Or.inl ⟨by rfl, ?ty36⟩) (by assumption) ?tr36
                case ty36 => (intro w hSw; (try dsimp only at hSw); go_simp; (try with_reducible rfl))
                try simp only [Act.put, List.getElem_toArray, List.getElem_cons_zero, List.getElem_cons_succ, List.setIfInBounds_toArray, List.set_cons_zero, List.set_cons_succ]
                refine wpAnyH_take (i := 7) (v := ?tv37) rfl (by kernel_rfl) (by kernel_rfl) (by kernel_rfl) (fun _ _ _ h => h) (Or.inl ⟨by rfl, ?ty37⟩) (by assumption) ?tr37
                case ty37 => (intro w hSw; (try dsimp only at hSw); obtain ⟨q1, q2, q3⟩ := KT2.out w hSw; have q4 := block_of_cell q1; have q5 := KV2.out w hSw; have q6 := block_of_cell q5; go_simp; (try with_reducible rfl))
                try simp only [Act.put, List.getElem_toArray, List.getElem_cons_zero, List.getElem_cons_succ, List.setIfInBounds_toArray, List.set_cons_zero, List.set_cons_succ]
                refine wpAnyH_ready (rs := [8]) (by kernel_rfl) (by simp) ?_
                refine AllReadyH.cons (i := 8) rfl (fun K2 hK2 => ?_) AllReadyH.nil
                go_simp
                go_at_call 43
                refine (HNE.out wr.drew (show Gr wr wr.drew from (by repeat (first | exact Gr.refl _ | (refine Gr.step ?_ (by assumption)) | (refine Gr.alloc ?_ _) | (refine Gr.drew ?_))))).mono ?_
                rintro ev w108 ⟨rfl, b108⟩
                try go_wp2_with fail
                refine hK2.out _ _ (show Gr wr _ from (by repeat (first | exact Gr.refl _ | (refine Gr.step ?_ (by assumption)) | (refine Gr.alloc ?_ _) | (refine Gr.drew ?_)))) (fun hHeld2 => ?_)
                clear hK2 K2
                try simp only [Act.put, List.getElem_toArray, List.getElem_cons_zero, List.getElem_cons_succ, List.setIfInBounds_toArray, List.set_cons_zero, List.set_cons_succ]
                refine wpAnyH_done (by kernel_rfl) ?_ _
                skip
                cases hbb : b with
                | true =>
                  have HFN := Lib.hid (KW.out _ hHeld2)
                  obtain ⟨k0, k1⟩ := HK.out
                  go_wp2
                  go_roundw
                  case rel => exact ⟨k + 1, by omega, by go_num, by go_num, HFN⟩
                  case measure => simp [intOf]; omega
                | false =>
                  have HFN := Lib.hid (KW.out _ hHeld2)
                  have HFF : Hid (∀ j' p', j' < j + 1 → ps[j']? = some p' → p'.any (fun c => hits c t) = false) := Lib.hid (fun j' p' hj' h' => by
                    by_cases q : j' = j
                    · subst q; rw [HPJ.out] at h'; cases h'; rw [HB20.out, hbb]
                    · exact HF.out j' p' (by omega) h')
                  go_wp2
                  go_roundw
                  case rel => exact ⟨j + 1, by omega, by go_num, by first | rfl | go_num, HFN, HFF⟩
                  case measure => simp [intOf]; omega
              · exfalso
                obtain ⟨p, hp, c, hcp, e⟩ := HX.out.2.2.2.2.1 t (List.mem_of_getElem? HTT.out)
                obtain ⟨j', hj', ep⟩ := List.getElem_of_mem hp
                have h0 := HF.out j' p (by have := HN.out.1; omega) (by rw [List.getElem?_eq_getElem hj', ep])
                have h1 : p.any (fun c => hits c t) = true := List.any_eq_true.2 ⟨c, hcp, by rw [← e]; exact hits_tile all c⟩
                rw [h0] at h1
                cases h1

          exact AllReadyH.nil
    · obtain rfl : k = r := by omega
      have HBF : Hid (Below w.heap.size w wo) := Lib.hid (HB1.out.trans (HB.out.mono HB1.out.size))
      go_wp2_with fail
      refine (laid_any ps T all _ _ wo (HP.out.below HBF.out) (by have := HR.out.below HB.out; rw [HN.out.2]; exact this) HX.out.1 HX.out.2.1 (by have := HN.out.1; omega) (fun p hp => by have := HX.out.2.2.1 p hp; omega) (by have := HN.out.2; omega) HX.out.2.2.2.2.2.1).mono ?_
      rintro ev w9 ⟨rfl, b9⟩
      go_wp2
      go_ret
      exact ⟨rfl, HBF.out.trans (b9.mono HBF.out.size)⟩
end Go.Proofs.YtdodfeoaioolnaaDoor

