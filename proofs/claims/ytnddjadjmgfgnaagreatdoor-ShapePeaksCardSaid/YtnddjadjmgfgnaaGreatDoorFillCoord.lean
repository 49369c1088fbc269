/- cartularylaw01.Book: fillCoord: each list that the book holds is marked. No condition. -/
import Derived.Test.YtnddjadjmgfgnaaGreatDoorRows
import Derived.Test.YtnddjadjmgfgnaaGreatDoorBookMem
import Derived.OwnWalk
import Derived.BigQuiet
import Derived.Deep.QuietTactic
import Derived.Deep.RegionHeld3
import Derived.Outline
namespace Go.Proofs.YtnddjadjmgfgnaaGreatDoor
open Go.ChangeShapes Go.WideShapes Go.ChangeAt Go.RowKit
set_option linter.unusedVariables false
def markCoord (num : Int) : List Value := [.int .u8 201, .int .u64 num]
theorem mark_coord (num : Int) (w : World) (h0 : 0 ≤ num) (h1 : num ≤ 1000000) :
    Calls Tryz.prog 96 #[.int .i64 num] w fun ev w' => ev = .returned (.agg #[.int .u8 201, .int .u64 num]) ∧ Below w.heap.size w w' := by
  go_enter Tryz.func96, Tryz.ntmps96
  go_wp2
  refine bodyPost_ret (v := .agg #[.int .u8 201, .int .u64 num]) (by simp [results, Tryz.results96, go_sem]) rfl ⟨rfl, ?_⟩
  repeat (first | exact Below.refl _ _ | (refine below_drewN ?_) | (refine Below.drew ?_) | (refine Below.alloc ?_ (by simp; try omega) _) | (refine Below.setCell ?_ (by simp; try omega) _))
/-- behind i lists and k elements of the next -/
structure FillCoord (base K r : Nat) (H : List Hold) (w : World) (i k : Nat) (wr : World) : Prop where
  bk : wr.heap[K]? = w.heap[K]?
  row : wr.heap[r]? = w.heap[r]?
  lists : ∀ (t : Nat) (h : Hold), H[t]? = some h → ∃ ys, wr.ownsRow base 77 2 h.v h.n ys ∧ (t < i → Mk (markCoord h.num) 2 h.n ys) ∧ (t = i → Mk (markCoord h.num) 2 k ys)
  below : Below base w wr
theorem FillCoord.alloc {base K r : Nat} {H : List Hold} {w wr : World} {i k : Nat} (h : FillCoord base K r H w i k wr) (hK : K < w.heap.size) (hr : r < w.heap.size) (hb : base ≤ w.heap.size) {w2 : World} (h2 : Below wr.heap.size wr w2) : FillCoord base K r H w i k w2 :=
  ⟨(h2.block K (Nat.lt_of_lt_of_le hK h.below.size)).trans h.bk, (h2.block r (Nat.lt_of_lt_of_le hr h.below.size)).trans h.row,
    fun t x hx => by obtain ⟨ys, a, b, c⟩ := h.lists t x hx; exact ⟨ys, own_below a h2 (Nat.le_refl _), b, c⟩, h.below.trans (h2.mono (Nat.le_trans hb h.below.size))⟩
theorem FillCoord.next {base K r : Nat} {H : List Hold} {w wr : World} {i : Nat} {x : Hold} (h : FillCoord base K r H w i x.n wr) (hx : H[i]? = some x) : FillCoord base K r H w (i + 1) 0 wr :=
  ⟨h.bk, h.row, fun t y hy => by
    obtain ⟨ys, a, b, c⟩ := h.lists t y hy
    refine ⟨ys, a, fun ht => ?_, fun _ => Mk.zero _ _ _⟩
    by_cases e : t = i
    · have hc := c e
      subst e; rw [hx] at hy; cases hy; exact hc
    · exact b (by omega), h.below⟩
theorem FillCoord.store {base K r : Nat} {H : List Hold} {w wr : World} {i k g cap : Nat} {x : Hold} (h : FillCoord base K r H w i k wr) (ha : Away K r H) (hx : H[i]? = some x) (hk : k < x.n) (hv : x.v = .slice (some ⟨g, 0, none⟩) x.n cap) (hK : K < wr.heap.size) (hr : r < wr.heap.size) (hbs : base ≤ w.heap.size) :
    FillCoord base K r H w i (k + 1) (storeAll wr g (k * 2) (markCoord x.num)) := by
  have hg := storeAll_grown (g := g) (markCoord x.num) wr (k * 2)
  have hob : x.v.ownBlock = some g := by rw [hv]; rfl
  have hf := ha.far i x hx
  rw [hob] at hf
  obtain ⟨ys, o, _, _⟩ := h.lists i x hx
  have hlt := o.lt g hob
  refine ⟨(hg.block K hK (fun e => hf.1 e.symm)).trans h.bk, (hg.block r hr (fun e => hf.2 e.symm)).trans h.row, ?_, ?_⟩
  · intro t y hy
    obtain ⟨zs, o2, b, c⟩ := h.lists t y hy
    by_cases e : t = i
    · subst e
      rw [hx] at hy; cases hy
      have hl := o2.1
      rw [hv] at o2
      refine ⟨_, by rw [hv]; exact storeAll_own _ _ _ _ o2, fun ht => by omega, fun _ => (c rfl).set ?_ rfl⟩
      rw [hl, ← Nat.succ_mul]; exact Nat.mul_le_mul_right _ hk
    · refine ⟨zs, o2.kept hg ?_, b, fun he => by omega⟩
      rcases ha.two t i y x hy hx e with q | q
      · exact .inl q
      · exact .inr (by rw [hob] at q; exact q)
  · exact h.below.grown hg (by have := h.below.size; omega) (fun k' e => by cases e; exact hlt.1)
set_option maxRecDepth 100000 in
set_option maxHeartbeats 2000000 in
theorem fill_coord (base K r m cap : Nat) (H : List Hold) (w : World) (hm : H.length = m) (hm2 : m ≤ 1000000) (hbase : base ≤ w.heap.size) (hc : w.cell? ⟨K, 6, none⟩ = some (.slice (some ⟨r, 0, none⟩) m cap)) (hrow : RowAt r H (fun _ => .slice none 0 0) w) (hr : r < w.heap.size) (ha : Away K r H)
    (hl : ∀ (t : Nat) (h : Hold), H[t]? = some h → ∃ ys, w.ownsRow base 77 2 h.v h.n ys) (hn : ∀ (t : Nat) (h : Hold), H[t]? = some h → h.n ≤ 1000000 ∧ 0 ≤ h.num ∧ h.num ≤ 1000000) :
    Calls Tryz.prog 34 #[.pointer (some ⟨K, 0, none⟩)] w fun ev w' => ev = .returned (.tuple #[]) ∧ FillCoord base K r H w m 0 w' := by
  have hK := block_of_cell hc
  have HF : Hid (FillCoord base K r H w 0 0 w) := Lib.hid ⟨rfl, rfl, fun t h ht => by obtain ⟨ys, o⟩ := hl t h ht; exact ⟨ys, o, fun q => by omega, fun _ => Mk.zero _ _ _⟩, Below.refl _ _⟩
  have HN := Lib.hid hn
  have HM := Lib.hid hm
  have HROW := Lib.hid hrow
  have HA := Lib.hid ha
  clear hn hm hrow ha hl
  go_enter Tryz.func34, Tryz.ntmps34
  go_wp2
  go_loopw [2] (fun i wr => ∃ k : Nat, k ≤ m ∧ i = .int .i64 k ∧ Hid (FillCoord base K r H w k 0 wr)) (fun i _ => m - (intOf i).toNat)
  case atStart => exact ⟨0, by omega, rfl, HF⟩
  case round =>
    obtain ⟨k, hk, rfl, HR⟩ := hrel
    have hKc := cell_block HR.out.bk hc
    have hKw := block_of_cell hKc
    have hsz := HR.out.below.size
    by_cases hlt : k < m
    · obtain ⟨x, hx⟩ : ∃ x, H[k]? = some x := ⟨_, List.getElem?_eq_getElem (by have := HM.out; omega)⟩
      obtain ⟨r0, r1, r2⟩ := (HROW.out.block HR.out.row).cells k x hx
      obtain ⟨n1, n2, n3⟩ := HN.out k x hx
      obtain ⟨ys0, o0, _⟩ := HR.out.lists k x hx
      obtain ⟨xv, xn, num⟩ := x
      obtain ⟨_, A, xcap, hxv, _⟩ := rd_own o0
      simp only at r0 r2 n1 n2 n3 hxv
      subst hxv
      clear o0
      have HX := Lib.hid hx
      have hrw := block_of_cell r0
      have i1 : (k : Int) < m := by omega
      clear hx
      obtain ⟨wo, rfl⟩ : ∃ wo : World, wo = wr := ⟨_, rfl⟩
      go_wp2
      go_loopw [4] (fun j wr => ∃ t : Nat, t ≤ xn ∧ j = .int .i64 t ∧ Hid (FillCoord base K r H w k t wr) ∧ wr.cell? ⟨wo.heap.size, 0, none⟩ = some (.slice A xn xcap) ∧ wr.cell? ⟨wo.heap.size, 2, none⟩ = some (.int .i64 num)) (fun j _ => xn - (intOf j).toNat)
      case atStart =>
        refine ⟨0, by omega, rfl, Lib.hid (HR.out.alloc (by have := block_of_cell hc; omega) hr hbase ?_), cell_new _ _ 0 _ rfl, cell_new _ _ 2 _ rfl⟩
        exact (Below.refl _ _).alloc (Nat.le_refl _) _
      case round =>
        obtain ⟨t, ht, rfl, HI, e0, e2⟩ := hrel
        have ge := block_of_cell e0
        by_cases hlt2 : t < xn
        · obtain ⟨ys, o, _, _⟩ := HI.out.lists k _ HX.out
          obtain ⟨g, cap2, hgv, hg1, hg2⟩ := o.form (by simp only; omega)
          simp only at hgv
          cases hgv
          have f0 := o.frozenAt (t * 2)
          have f1 := o.frozenAt (t * 2 + 1)
          have hts : t * 2 + 2 ≤ xn * 2 := by rw [← Nat.succ_mul]; exact Nat.mul_le_mul_right _ hlt2
          have hyl := o.1
          simp only at hyl
          obtain ⟨u0, hu0⟩ : ∃ u, ys[t * 2]? = some u := ⟨_, List.getElem?_eq_getElem (by omega)⟩
          obtain ⟨u1, hu1⟩ : ∃ u, ys[t * 2 + 1]? = some u := ⟨_, List.getElem?_eq_getElem (by omega)⟩
          have c0 := o.cellAt (t * 2) (by omega)
          have c1 := o.cellAt (t * 2 + 1) (by omega)
          rw [hu0] at c0
          rw [hu1] at c1
          have i2 : (t : Int) < xn := by omega
          clear hu0 hu1 o
          have hKw2 : K < wr.heap.size := by have := HI.out.below.size; have := block_of_cell hc; omega
          have hrw2 : r < wr.heap.size := by have := HI.out.below.size; omega
          go_wp2_with fail
          go_region_with (go_at_call 96; refine (mark_coord num _ n2 n3).mono ?_; rintro ev w1 ⟨rfl, b1⟩; have b1 : Below wr.heap.size wr w1 := ((Below.refl _ wr).drew).trans b1; have e0' := cell_below b1 e0 ge; have e2' := cell_below b1 e2 ge; have c0' := cell_below b1 c0 hg2; have c1' := cell_below b1 c1 hg2; have f0' := frozen_below b1 f0 hg2; have f1' := frozen_below b1 f1 hg2; have ge1 := block_of_cell e0'; have hg3 := block_of_cell c0')
          all_goals
            have hgo : g < wo.heap.size := by
              obtain ⟨ys1, o1, _, _⟩ := HR.out.lists k _ HX.out
              exact (o1.lt g rfl).2
            have HS : Hid (FillCoord base K r H w k (t + 1) ((w1.setCell ⟨g, t * 2, none⟩ (.int .u8 201)).setCell ⟨g, t * 2 + 1, none⟩ (.int .u64 num))) :=
              Lib.hid ((HI.out.alloc (by have := block_of_cell hc; omega) hr hbase b1).store HA.out HX.out hlt2 rfl (by have := b1.size; omega) (by have := b1.size; omega) hbase)
            have HG : Hid (w1.grownBy ((w1.setCell ⟨g, t * 2, none⟩ (.int .u8 201)).setCell ⟨g, t * 2 + 1, none⟩ (.int .u64 num)) (some g)) := Lib.hid (storeAll_grown (g := g) [.int .u8 201, .int .u64 num] w1 (t * 2))
            go_wp2
            go_roundw
            case rel => exact ⟨t + 1, by omega, by go_num, HS, cell_grown HG.out e0' (by intro e; injection e; omega), cell_grown HG.out e2' (by intro e; injection e; omega)⟩
            case measure => simp [intOf]; omega
        · obtain rfl : t = xn := by omega
          go_wp2
          go_roundw
          case rel => exact ⟨k + 1, by omega, by go_num, Lib.hid (HI.out.next HX.out)⟩
          case measure => simp [intOf]; omega
    · obtain rfl : k = m := by omega
      go_wp2
      go_end0
      exact ⟨rfl, HR.out⟩
end Go.Proofs.YtnddjadjmgfgnaaGreatDoor
