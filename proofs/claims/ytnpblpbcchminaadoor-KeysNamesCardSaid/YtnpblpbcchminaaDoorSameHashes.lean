import Derived.Test.YtnpblpbcchminaaDoorHashAid
import Derived.StillTailTactics
/- SameHashes: element by element. No condition. -/
namespace Go.Proofs.YtnpblpbcchminaaDoor
open Go.ChangeShapes Go.WideShapes Go.ChangeAt Go.RowKit
set_option linter.unusedVariables false
/-- the row of one hash of a list, wherever only the draws turned -/
theorem HIn.row {w : World} {A : Option Addr} {n cap : Nat} {l : List (List UInt8)} (h : HIn w A n cap l) {k : Nat} {x : List UInt8} (hk : l[k]? = some x) : ∃ g o, A = some ⟨g, o, none⟩ ∧ g < w.heap.size ∧ w.rangeAt g (o + k * 32) (bytesV x) ∧ x.length = 32 := by
  obtain ⟨h1, h2, h3, h4, h5⟩ := h
  rcases h5 with rfl | ⟨g, o, rfl, h7⟩
  · simp at hk
  · have hr : w.rangeAt g (o + k * 32) (bytesV x) := fun j v hj => by rw [Nat.add_assoc]; exact h7 _ v (hashCells_at h1 hk hj)
    exact ⟨g, o, rfl, rangeAt_lt hr (by intro q; have := congrArg List.length q; rw [bytesV_length, h1.at hk] at this; simp at this), hr, h1.at hk⟩
theorem list_beq_step {α : Type} [BEq α] [LawfulBEq α] {l m : List α} (h : l.length = m.length) (hk : ∀ i, i < l.length → l[i]? = m[i]?) : l = m := by
  refine List.ext_getElem? fun i => ?_
  by_cases hi : i < l.length
  · exact hk i hi
  · rw [List.getElem?_eq_none (by omega), List.getElem?_eq_none (by omega)]
set_option maxRecDepth 100000 in
set_option maxHeartbeats 4000000 in
theorem same_hashes (l m : List (List UInt8)) (A1 A2 : Option Addr) (n1 n2 c1 c2 : Nat) (w : World) (hn : n1 ≤ 9000000000000000000) (h1 : HIn w A1 n1 c1 l) (h2 : HIn w A2 n2 c2 m) :
    Calls Tryd.prog 26 #[.slice A1 n1 c1, .slice A2 n2 c2] w fun ev w' => ev = .returned (.bool (decide (l = m))) ∧ Below w.heap.size w w' := by
  have hl := h1.2.1
  have hm := h2.2.1
  have H1 := Lib.hid h1
  have H2 := Lib.hid h2
  clear h1 h2
  by_cases hne : n1 ≠ n2
  · have hd : decide (l = m) = false := by simp; intro e; subst e; omega
    have hb : ((n1 : Int) != (n2 : Int)) = true := by simp; omega
    have HD := Lib.hid hd
    clear hd hl hm hne
    go_enter Tryd.func26, Tryd.ntmps26
    go_wp2
    go_ret
    exact ⟨by rw [HD.out]; rfl, Below.refl _ _⟩
  · obtain rfl : n1 = n2 := by omega
    have HL := Lib.hid (And.intro hl hm)
    clear hl hm hne
    go_enter Tryd.func26, Tryd.ntmps26
    go_wp2
    go_loopw [5] (fun i wr => ∃ k nq : Nat, k ≤ n1 ∧ i = .int .i64 k ∧ Hid (wr = w.drewN nq) ∧ Hid (∀ j, j < k → l[j]? = m[j]?)) (fun i _ => n1 - (intOf i).toNat)
    case atStart => exact ⟨0, 0, Nat.zero_le _, rfl, Lib.hid rfl, Lib.hid (fun j h => by omega)⟩
    case round =>
      obtain ⟨k, nq, hk, rfl, HW, HR⟩ := hrel
      by_cases hlt : k < n1
      · obtain ⟨x, hx⟩ : ∃ x, l[k]? = some x := ⟨_, List.getElem?_eq_getElem (by have := HL.out.1; omega)⟩
        obtain ⟨y, hy⟩ : ∃ y, m[k]? = some y := ⟨_, List.getElem?_eq_getElem (by have := HL.out.2; omega)⟩
        obtain ⟨g1, o1, rfl, gl1, r1, x32⟩ := H1.out.row hx
        obtain ⟨g2, o2, rfl, gl2, r2, y32⟩ := H2.out.row hy
        obtain ⟨px, hpx⟩ : ∃ px, bytesV x = px := ⟨_, rfl⟩
        obtain ⟨py, hpy⟩ : ∃ py, bytesV y = py := ⟨_, rfl⟩
        have k1 : Hid (wr.drew.rangeAt g1 (o1 + k * 32) px) := Lib.hid (by rw [HW.out, ← hpx]; exact rangeAt_below ((below_drewN (Below.refl w.heap.size w)).drew) r1 gl1)
        have k2 : Hid (wr.drew.rangeAt g2 (o2 + k * 32) py) := Lib.hid (by rw [HW.out, ← hpy]; exact rangeAt_below ((below_drewN (Below.refl w.heap.size w)).drew) r2 gl2)
        have HI1 := Lib.hid (show (Tryd.prog.info? 23).map (·.size) = some px.length by rw [← hpx, bytesV_length, x32]; kernel_rfl)
        have HI2 := Lib.hid (show (Tryd.prog.info? 23).map (·.size) = some py.length by rw [← hpy, bytesV_length, y32]; kernel_rfl)
        have hq : ∀ w, (Op.equalIn 10000 23 (.agg px.toArray) (.agg py.toArray)).run Tryd.prog w = .ok (x == y) w := fun w => eq_hash x y x32 y32 _ _ (by rw [hv, hpx]) (by rw [hv, hpy]) w
        have HXY := Lib.hid (And.intro hx hy)
        have i0 : (0 : Int) ≤ k := by omega
        have i1 : (k : Int) < n1 := by omega
        clear r1 r2 hpx hpy x32 y32 hx hy
        have HQ := Lib.hid hq
        by_cases hxy : x = y
        · have hb : (x == y) = true := by simp [hxy]
          rw [hb] at hq
          clear hb
          have HE := Lib.hid hxy
          clear hxy
          go_wp2_with fail
          go_still_tail 8, (by kernel_rfl)
          refine wpStill_load_mid rfl 23 _ rfl g1 (o1 + k * 32) rfl px _ k1.out Tryd.underlying23 rfl HI1.out ?_
          repeat still_step
          refine wpStill_load_mid rfl 23 _ rfl g2 (o2 + k * 32) rfl py _ k2.out Tryd.underlying23 rfl HI2.out ?_
          refine wpStill_nil ?_
          change wpList _ _ _ _ _ wr.drew
          go_wp2
          go_roundw
          case rel => exact ⟨k + 1, nq + 1, by omega, by go_num, Lib.hid (by rw [HW.out]; rfl), Lib.hid (fun j hj => by
            by_cases e : j = k
            · subst e; rw [HXY.out.1, HXY.out.2, HE.out]
            · exact HR.out j (by omega))⟩
          case measure => simp [intOf]; omega
        · have hb : (x == y) = false := by simp [hxy]
          rw [hb] at hq
          clear hb
          have HE := Lib.hid hxy
          clear hxy
          go_wp2_with fail
          go_still_tail 8, (by kernel_rfl)
          refine wpStill_load_mid rfl 23 _ rfl g1 (o1 + k * 32) rfl px _ k1.out Tryd.underlying23 rfl HI1.out ?_
          repeat still_step
          refine wpStill_load_mid rfl 23 _ rfl g2 (o2 + k * 32) rfl py _ k2.out Tryd.underlying23 rfl HI2.out ?_
          refine wpStill_nil ?_
          change wpList _ _ _ _ _ wr.drew
          go_wp2
          go_ret
          refine ⟨ret_bool ?_, by rw [HW.out]; exact (below_drewN (Below.refl w.heap.size w)).drew⟩
          have : ¬ l = m := fun e => by subst e; have h1 := HXY.out.1; rw [HXY.out.2] at h1; cases h1; exact HE.out rfl
          simp [this]
      · obtain rfl : k = n1 := by omega
        go_wp2
        go_ret
        refine ⟨ret_bool ?_, by rw [HW.out]; exact below_drewN (Below.refl w.heap.size w)⟩
        have : l = m := list_beq_step (by have := HL.out; omega) (fun i hi => HR.out i (by have := HL.out; omega))
        simp [this]
end Go.Proofs.YtnpblpbcchminaaDoor

/- A new row, a row written: what is known of the others stays. No program in sight. -/
namespace Go.Proofs.YtnpblpbcchminaaDoor
open Go.ChangeShapes Go.WideShapes Go.ChangeAt Go.RowKit
theorem st_alloc {pred : Nat → Prop} {base w n : World} {g : Nat} {c : Array Value} {t : TypeId} (h : But pred base w) (hn : w.alloc (.cells c t) = n) (hg : w.heap.size = g) : But pred base n ∧ n.heap[g]? = some (.cells c t (0, 0)) ∧ base.heap.size ≤ g ∧ ∀ (k : Nat) (x : Obj), w.heap[k]? = some x → n.heap[k]? = some x ∧ k < g := by
  subst hn; subst hg
  have hb : Below w.heap.size w (w.alloc (.cells c t)) := (Below.refl _ _).alloc (Nat.le_refl _) _
  refine ⟨h.below hb, heap_at _ _ _ rfl, h.size, fun k x hx => ?_⟩
  have hk := (Array.getElem?_eq_some_iff.1 hx).1
  exact ⟨(hb.block _ hk).trans hx, hk⟩
theorem st_row {pred : Nat → Prop} {base w n : World} {b : Nat} {c v : Array Value} {t : TypeId} {fr : Nat × Nat} (h : But pred base w) (hn : w.setRow b v = n) (hp : b < base.heap.size → pred b) (hr : w.heap[b]? = some (.cells c t fr)) : But pred base n ∧ n.heap[b]? = some (.cells v t fr) ∧ ∀ (k : Nat) (x : Obj), k ≠ b → w.heap[k]? = some x → n.heap[k]? = some x := by
  subst hn
  exact ⟨But.setRow h b v hp, setRow_heap _ _ _ _ _ _ hr, fun k x hk hx => (setRow_other _ _ _ _ hk).trans hx⟩
theorem st_call {pred : Nat → Prop} {base w n : World} (h : But pred base w) (hb : Below w.heap.size w n) : But pred base n ∧ ∀ (k : Nat) (x : Obj), w.heap[k]? = some x → n.heap[k]? = some x :=
  ⟨h.below hb, fun _ _ hx => (hb.block _ (Array.getElem?_eq_some_iff.1 hx).1).trans hx⟩
end Go.Proofs.YtnpblpbcchminaaDoor

