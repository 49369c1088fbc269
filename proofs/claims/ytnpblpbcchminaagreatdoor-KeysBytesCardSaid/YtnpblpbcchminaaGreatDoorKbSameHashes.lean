import Derived.Test.YtnpblpbcchminaaGreatDoorKbHashAid
import Derived.StillTailTactics
import Derived.Deep.Cut
import Derived.Laws.MakeOwn
import Derived.Deep.MidRow
import Derived.BigRegion
import Derived.Deep.DeepCutAuto
/- SameHashes: element by element. No condition. -/
namespace Go.Proofs.YtnpblpbcchminaaGreatDoor
open Go.ChangeShapes Go.WideShapes Go.ChangeAt Go.RowKit
set_option linter.unusedVariables false
/-- the row of one hash of a list, wherever only the draws turned -/
theorem HIn.row {w : World} {A : Option Addr} {n cap : Nat} {l : List (List UInt8)} (h : HIn w A n cap l) {k : Nat} {x : List UInt8} (hk : l[k]? = some x) : ∃ g o, A = some ⟨g, o, none⟩ ∧ g < w.heap.size ∧ w.rangeAt g (o + k * 32) (bytesV x) ∧ x.length = 32 := by
  obtain ⟨h1, h2, h3, h4, h5⟩ := h
  rcases h5 with rfl | ⟨g, o, rfl, h7⟩
  · simp at hk
  · have hr : w.rangeAt g (o + k * 32) (bytesV x) := fun j v hj => by rw [Nat.add_assoc]; exact h7 _ v (hashCells_at h1 hk hj)
    exact ⟨g, o, rfl, rangeAt_lt hr (by intro q; have := congrArg List.length q; rw [bytesV_length, h1.at hk] at this; simp at this), hr, h1.at hk⟩
theorem list_beq_step {α : Type} [BEq α] [LawfulBEq α] {l m : List α} (h : l.length = m.length) (hk : ∀ i, i < l.length → l[i]? = m[i]?) : l = m := by
  refine List.ext_getElem? fun i => ?_
  by_cases hi : i < l.length
  · exact hk i hi
  · rw [List.getElem?_eq_none (by omega), List.getElem?_eq_none (by omega)]
set_option maxRecDepth 100000 in
set_option maxHeartbeats 4000000 in
theorem same_hashes (l m : List (List UInt8)) (A1 A2 : Option Addr) (n1 n2 c1 c2 : Nat) (w : World) (hn : n1 ≤ 9000000000000000000) (h1 : HIn w A1 n1 c1 l) (h2 : HIn w A2 n2 c2 m) :
    Calls Tryz.prog 54 #[.slice A1 n1 c1, .slice A2 n2 c2] w fun ev w' => ev = .returned (.bool (decide (l = m))) ∧ Below w.heap.size w w' := by
  have hl := h1.2.1
  have hm := h2.2.1
  have H1 := Lib.hid h1
  have H2 := Lib.hid h2
  clear h1 h2
  by_cases hne : n1 ≠ n2
  · have hd : decide (l = m) = false := by simp; intro e; subst e; omega
    have hb : ((n1 : Int) != (n2 : Int)) = true := by simp; omega
    have HD := Lib.hid hd
    clear hd hl hm hne
    go_enter Tryz.func54, Tryz.ntmps54
    go_wp2
    go_ret
    exact ⟨by rw [HD.out]; rfl, Below.refl _ _⟩
  · obtain rfl : n1 = n2 := by omega
    have HL := Lib.hid (And.intro hl hm)
    clear hl hm hne
    go_enter Tryz.func54, Tryz.ntmps54
    go_wp2
    go_loopw [5] (fun i wr => ∃ k nq : Nat, k ≤ n1 ∧ i = .int .i64 k ∧ Hid (wr = w.drewN nq) ∧ Hid (∀ j, j < k → l[j]? = m[j]?)) (fun i _ => n1 - (intOf i).toNat)
    case atStart => exact ⟨0, 0, Nat.zero_le _, rfl, Lib.hid rfl, Lib.hid (fun j h => by omega)⟩
    case round =>
      obtain ⟨k, nq, hk, rfl, HW, HR⟩ := hrel
      by_cases hlt : k < n1
      · obtain ⟨x, hx⟩ : ∃ x, l[k]? = some x := ⟨_, List.getElem?_eq_getElem (by have := HL.out.1; omega)⟩
        obtain ⟨y, hy⟩ : ∃ y, m[k]? = some y := ⟨_, List.getElem?_eq_getElem (by have := HL.out.2; omega)⟩
        obtain ⟨g1, o1, rfl, gl1, r1, x32⟩ := H1.out.row hx
        obtain ⟨g2, o2, rfl, gl2, r2, y32⟩ := H2.out.row hy
        obtain ⟨px, hpx⟩ : ∃ px, bytesV x = px := ⟨_, rfl⟩
        obtain ⟨py, hpy⟩ : ∃ py, bytesV y = py := ⟨_, rfl⟩
        have k1 : Hid (wr.drew.rangeAt g1 (o1 + k * 32) px) := Lib.hid (by rw [HW.out, ← hpx]; exact rangeAt_below ((below_drewN (Below.refl w.heap.size w)).drew) r1 gl1)
        have k2 : Hid (wr.drew.rangeAt g2 (o2 + k * 32) py) := Lib.hid (by rw [HW.out, ← hpy]; exact rangeAt_below ((below_drewN (Below.refl w.heap.size w)).drew) r2 gl2)
        have HI1 := Lib.hid (show (Tryz.prog.info? 23).map (·.size) = some px.length by rw [← hpx, bytesV_length, x32]; kernel_rfl)
        have HI2 := Lib.hid (show (Tryz.prog.info? 23).map (·.size) = some py.length by rw [← hpy, bytesV_length, y32]; kernel_rfl)
        have hq : ∀ w, (Op.equalIn 10000 23 (.agg px.toArray) (.agg py.toArray)).run Tryz.prog w = .ok (x == y) w := fun w => eq_hash x y x32 y32 _ _ (by rw [hv, hpx]) (by rw [hv, hpy]) w
        have HXY := Lib.hid (And.intro hx hy)
        have i0 : (0 : Int) ≤ k := by omega
        have i1 : (k : Int) < n1 := by omega
        clear r1 r2 hpx hpy x32 y32 hx hy
        have HQ := Lib.hid hq
        by_cases hxy : x = y
        · have hb : (x == y) = true := by simp [hxy]
          rw [hb] at hq
          clear hb
          have HE := Lib.hid hxy
          clear hxy
          go_wp2_with fail
          go_still_tail 8, (by kernel_rfl)
          refine wpStill_load_mid rfl 23 _ rfl g1 (o1 + k * 32) rfl px _ k1.out Tryz.underlying23 rfl HI1.out ?_
          repeat still_step
          refine wpStill_load_mid rfl 23 _ rfl g2 (o2 + k * 32) rfl py _ k2.out Tryz.underlying23 rfl HI2.out ?_
          refine wpStill_nil ?_
          change wpList _ _ _ _ _ wr.drew
          go_wp2
          go_roundw
          case rel => exact ⟨k + 1, nq + 1, by omega, by go_num, Lib.hid (by rw [HW.out]; rfl), Lib.hid (fun j hj => by
            by_cases e : j = k
            · subst e; rw [HXY.out.1, HXY.out.2, HE.out]
            · exact HR.out j (by omega))⟩
          case measure => simp [intOf]; omega
        · have hb : (x == y) = false := by simp [hxy]
          rw [hb] at hq
          clear hb
          have HE := Lib.hid hxy
          clear hxy
          go_wp2_with fail
          go_still_tail 8, (by kernel_rfl)
          refine wpStill_load_mid rfl 23 _ rfl g1 (o1 + k * 32) rfl px _ k1.out Tryz.underlying23 rfl HI1.out ?_
          repeat still_step
          refine wpStill_load_mid rfl 23 _ rfl g2 (o2 + k * 32) rfl py _ k2.out Tryz.underlying23 rfl HI2.out ?_
          refine wpStill_nil ?_
          change wpList _ _ _ _ _ wr.drew
          go_wp2
          go_ret
          refine ⟨ret_bool ?_, by rw [HW.out]; exact (below_drewN (Below.refl w.heap.size w)).drew⟩
          have : ¬ l = m := fun e => by subst e; have h1 := HXY.out.1; rw [HXY.out.2] at h1; cases h1; exact HE.out rfl
          simp [this]
      · obtain rfl : k = n1 := by omega
        go_wp2
        go_ret
        refine ⟨ret_bool ?_, by rw [HW.out]; exact below_drewN (Below.refl w.heap.size w)⟩
        have : l = m := list_beq_step (by have := HL.out; omega) (fun i hi => HR.out i (by have := HL.out; omega))
        simp [this]
end Go.Proofs.YtnpblpbcchminaaGreatDoor

/- Faults as the reference has them. No condition. -/
namespace Go.Proofs.YtnpblpbcchminaaGreatDoor
open Go.ChangeShapes Go.WideShapes Go.ChangeAt Go.RowKit
set_option linter.unusedVariables false
/-- a fault as the reference has it: its number, no place -/
def faultV (k : Nat) : Value := .agg #[.int .i64 k, .int .i64 (if k = 0 then 0 else -1)]

theorem results_row_row {P : Program} {fn : Func} {p q : Tmp} {ty ty2 : TypeId} (h : fn.results = #[.cell p ty, .cell q ty2]) (tmps : Array Value) (w : World) (g g2 : Nat) (t t2 : TypeId) (cs cs2 : Array Value) (fr fr2 : Nat × Nat) (d d2 : TypeDesc)
    (hp : tmps.getD p undef = .pointer (some ⟨g, 0, none⟩)) (hg : w.heap[g]? = some (.cells cs t fr)) (hp2 : tmps.getD q undef = .pointer (some ⟨g2, 0, none⟩)) (hg2 : w.heap[g2]? = some (.cells cs2 t2 fr2))
    (hu : P.underlying ty = some d) (hd : (match d with | .struct _ | .array _ _ => true | _ => false) = true) (hi : (P.info? ty).map (·.size) = some cs.size)
    (hu2 : P.underlying ty2 = some d2) (hd2 : (match d2 with | .struct _ | .array _ _ => true | _ => false) = true) (hi2 : (P.info? ty2).map (·.size) = some cs2.size) :
    (results fn tmps).run P w = .ok (.tuple #[.agg cs, .agg cs2]) w := by
  rw [Array.getD_eq_getD_getElem?] at hp hp2
  simp only [results, h]
  simp [Sem.run_bind, hp, hp2, asAddr, run_loadVar_row w g t ty cs fr d hg hu hd hi, run_loadVar_row w g2 t2 ty2 cs2 fr2 d2 hg2 hu2 hd2 hi2, Result.andThen]
/-- a fault as a row of cells -/
theorem fault_of (k : Nat) : ∃ vf : Array Value, faultV k = .agg vf ∧ Hid (vf = #[.int .i64 k, .int .i64 (if k = 0 then 0 else -1)]) ∧ Hid (vf.size = 2) ∧ Hid ((Tryz.prog.info? 34).map (·.size) = some vf.size) ∧ Hid (vf.all (·.oneCell') = true) := by
  exact ⟨_, rfl, Lib.hid rfl, Lib.hid rfl, Lib.hid (by kernel_rfl), Lib.hid (by simp [Value.oneCell'])⟩
end Go.Proofs.YtnpblpbcchminaaGreatDoor

/- cartularylaw01.TwinHashes: a copy with a mark behind it; LeftHashes: it is so still. No condition. -/
namespace Go.Proofs.YtnpblpbcchminaaGreatDoor
open Go.ChangeShapes Go.WideShapes Go.ChangeAt Go.RowKit
set_option linter.unusedVariables false
/-- the mark -/
def markB : List UInt8 := [97, 30] ++ List.replicate 29 0 ++ [201]
theorem markB_v : hv markB = .agg #[.int .u8 97, .int .u8 30, .int .u8 0, .int .u8 0, .int .u8 0, .int .u8 0, .int .u8 0, .int .u8 0, .int .u8 0, .int .u8 0, .int .u8 0, .int .u8 0, .int .u8 0, .int .u8 0, .int .u8 0, .int .u8 0, .int .u8 0, .int .u8 0, .int .u8 0, .int .u8 0, .int .u8 0, .int .u8 0, .int .u8 0, .int .u8 0, .int .u8 0, .int .u8 0, .int .u8 0, .int .u8 0, .int .u8 0, .int .u8 0, .int .u8 0, .int .u8 201] := by kernel_rfl
set_option maxRecDepth 100000 in
theorem mark_any (w : World) : Calls Tryz.prog 117 #[.int .i64 7777] w fun ev w' => ev = .returned (hv markB) ∧ Below w.heap.size w w' := by
  obtain ⟨vm, evm, Hvm, Zvm, Ivm, Ovm⟩ := row_of markB rfl
  have HVM : Hid (vm = #[.int .u8 97, .int .u8 30, .int .u8 0, .int .u8 0, .int .u8 0, .int .u8 0, .int .u8 0, .int .u8 0, .int .u8 0, .int .u8 0, .int .u8 0, .int .u8 0, .int .u8 0, .int .u8 0, .int .u8 0, .int .u8 0, .int .u8 0, .int .u8 0, .int .u8 0, .int .u8 0, .int .u8 0, .int .u8 0, .int .u8 0, .int .u8 0, .int .u8 0, .int .u8 0, .int .u8 0, .int .u8 0, .int .u8 0, .int .u8 0, .int .u8 0, .int .u8 201]) := Lib.hid (by rw [markB_v] at evm; cases evm; rfl)
  have HR : Hid ((w.alloc (.cells (List.replicate 32 (Value.int .u8 0)).toArray 23)).heap[w.heap.size]? = some (.cells (List.replicate 32 (Value.int .u8 0)).toArray 23 (0, 0))) := Lib.hid (heap_at _ _ _ rfl)
  have HBL : Hid (Below w.heap.size w (w.alloc (.cells (List.replicate 32 (Value.int .u8 0)).toArray 23))) := Lib.hid ((Below.refl _ _).alloc (Nat.le_refl _) _)
  obtain ⟨wv, hwv⟩ : ∃ x, w.alloc (.cells (List.replicate 32 (Value.int .u8 0)).toArray 23) = x := ⟨_, rfl⟩
  rw [hwv] at HR HBL
  have HWV := Lib.hid hwv
  simp only [List.replicate, List.toArray] at HWV
  rw [evm]
  clear evm hwv
  go_enter Tryz.func117, Tryz.ntmps117
  go_upto_region 1 with fail
  rw [HWV.out]
  go_wp2_with (refine wpList_store_row rfl 23 _ _ rfl w.heap.size vm rfl (by rw [HVM.out]; rfl) 23 _ HR.out Ivm.out (by rw [Zvm.out]; rfl) Ovm.out ?_)
  refine bodyPost_ret (v := .agg vm) (results_cell_row rfl _ _ w.heap.size 23 vm (0, 0) _ rfl (setRow_heap _ _ _ _ _ _ HR.out) Tryz.underlying23 rfl Ivm.out) rfl ⟨rfl, ?_⟩
  exact below_setRow HBL.out _ _ (Nat.le_refl _)
set_option maxRecDepth 100000 in
theorem ismark_any (w : World) : Calls Tryz.prog 135 #[hv markB, .int .i64 7777] w fun ev w' => ev = .returned (.bool true) ∧ Below w.heap.size w w' := by
  obtain ⟨vm, evm, Hvm, Zvm, Ivm, Ovm⟩ := row_of markB rfl
  have HVM : Hid (vm = #[.int .u8 97, .int .u8 30, .int .u8 0, .int .u8 0, .int .u8 0, .int .u8 0, .int .u8 0, .int .u8 0, .int .u8 0, .int .u8 0, .int .u8 0, .int .u8 0, .int .u8 0, .int .u8 0, .int .u8 0, .int .u8 0, .int .u8 0, .int .u8 0, .int .u8 0, .int .u8 0, .int .u8 0, .int .u8 0, .int .u8 0, .int .u8 0, .int .u8 0, .int .u8 0, .int .u8 0, .int .u8 0, .int .u8 0, .int .u8 0, .int .u8 0, .int .u8 201]) := Lib.hid (by rw [markB_v] at evm; cases evm; rfl)
  have HR : Hid ((w.alloc (.cells vm 23)).heap[w.heap.size]? = some (.cells vm 23 (0, 0))) := Lib.hid (heap_at _ _ _ rfl)
  have hq : ∀ w, (Op.equalIn 10000 23 (.agg vm) (.agg #[.int .u8 97, .int .u8 30, .int .u8 0, .int .u8 0, .int .u8 0, .int .u8 0, .int .u8 0, .int .u8 0, .int .u8 0, .int .u8 0, .int .u8 0, .int .u8 0, .int .u8 0, .int .u8 0, .int .u8 0, .int .u8 0, .int .u8 0, .int .u8 0, .int .u8 0, .int .u8 0, .int .u8 0, .int .u8 0, .int .u8 0, .int .u8 0, .int .u8 0, .int .u8 0, .int .u8 0, .int .u8 0, .int .u8 0, .int .u8 0, .int .u8 0, .int .u8 201])).run Tryz.prog w = .ok true w := fun w => by rw [eq_hash markB markB rfl rfl _ _ evm markB_v w]; simp
  rw [evm]
  clear evm
  go_enter Tryz.func135, Tryz.ntmps135
  go_wp2_with (refine wpList_load_row rfl 23 _ rfl w.heap.size rfl 23 vm (0, 0) _ HR.out Tryz.underlying23 rfl Ivm.out ?_)
  go_ret
  exact ⟨rfl, (Below.refl _ _).alloc (Nat.le_refl _) _⟩

theorem rangeAt_rows : ∀ {l : List (List UInt8)} {w : World} {g o : Nat} (_ : H32 l) (_ : ∀ (i : Nat) x, l[i]? = some x → w.rangeAt g (o + i * 32) (bytesV x)), w.rangeAt g o (hashCells l)
  | [], _, _, _, _, _ => fun j v hj => by simp [hashCells] at hj
  | x :: r, w, g, o, h32, h => fun j v hj => by
    have hx : x.length = 32 := h32 x (by simp)
    rw [hashCells_cons] at hj
    by_cases hl : j < 32
    · rw [List.getElem?_append_left (by rw [bytesV_length]; omega)] at hj
      have := h 0 x (by simp) j v hj
      rwa [Nat.zero_mul, Nat.add_zero] at this
    · rw [List.getElem?_append_right (by rw [bytesV_length]; omega), bytesV_length, hx] at hj
      have := rangeAt_rows (l := r) (g := g) (o := o + 32) (w := w) (fun y hy => h32 y (by simp [hy])) (fun i y hi => by
        have := h (i + 1) y (by simpa using hi)
        rwa [show o + (i + 1) * 32 = o + 32 + i * 32 by omega] at this) (j - 32) v hj
      rwa [show o + 32 + (j - 32) = o + j by omega] at this
/-- a list's copy lies in block G, the mark behind it -/
def Twin (w : World) (G : Nat) (l : List (List UInt8)) : Prop := H32 l ∧ (∀ (i : Nat) x, (l ++ [markB])[i]? = some x → w.rangeAt G (i * 32) (bytesV x)) ∧ w.there G 0 ((l.length + 1) * 32)
theorem Twin.hin {w : World} {G n : Nat} {l : List (List UInt8)} (h : Twin w G l) (hn : l.length = n) (hm : n ≤ 1048576) : HIn w (some ⟨G, 0, none⟩) n (n + 1) l :=
  ⟨h.1, hn, by omega, by omega, .inr ⟨G, 0, rfl, rangeAt_rows h.1 (fun i x hi => by
    rw [Nat.zero_add]
    refine h.2.1 i x ?_
    rw [List.getElem?_append_left (List.getElem?_eq_some_iff.1 hi).1]; exact hi)⟩⟩
theorem there_mid {w : World} {G m o k : Nat} (h : w.there G 0 m) (hk : o + k ≤ m) : w.there G o k := fun j hj => by
  have := h (o + j) (by omega)
  rwa [Nat.zero_add] at this
theorem there_block {w w' : World} {G o m : Nat} (h : w.there G o m) (hb : w'.heap[G]? = w.heap[G]?) : w'.there G o m := fun j hj =>
  ⟨by have := (h j hj).1; rw [Option.isSome_iff_exists] at this ⊢; obtain ⟨v, hv⟩ := this; exact ⟨v, cell_block hb hv⟩, frozen_block hb (h j hj).2⟩
theorem Twin.lt {w : World} {G : Nat} {l : List (List UInt8)} (h : Twin w G l) : G < w.heap.size := by
  have := (h.2.2 0 (by omega)).1
  rw [Option.isSome_iff_exists] at this
  obtain ⟨v, hv⟩ := this
  exact block_of_cell hv
theorem Twin.same {w w' : World} {G : Nat} {l : List (List UInt8)} (h : Twin w G l) (hb : w'.heap[G]? = w.heap[G]?) : Twin w' G l :=
  ⟨h.1, fun i x hi => rangeAt_block hb (h.2.1 i x hi), there_block h.2.2 hb⟩
theorem Twin.below {w w' : World} {G : Nat} {l : List (List UInt8)} (h : Twin w G l) (hb : Below w.heap.size w w') : Twin w' G l := h.same (hb.block G h.lt)
set_option maxRecDepth 100000 in
set_option maxHeartbeats 4000000 in
theorem twin_any (A : Option Addr) (n cap : Nat) (l : List (List UInt8)) (w : World) (h : HIn w A n cap l) (hm : n ≤ 1048576) :
    Calls Tryz.prog 30 #[.slice A n cap] w fun ev w' => ev = .returned (.slice (some ⟨w.heap.size, 0, none⟩) n (n + 1)) ∧ Twin w' w.heap.size l ∧ Below w.heap.size w w' := by
  have H := Lib.hid h
  have hl := h.2.1
  have HLN := Lib.hid hl
  obtain ⟨mk, hmk0⟩ : ∃ mk, Go.madeCells (Value.agg (List.replicate 32 (Value.int .u8 0)).toArray).cells (((n : Int) + 1).toNat * 32) = mk := ⟨_, rfl⟩
  have hmks : mk.size = (n + 1) * 32 := by rw [← hmk0, Go.size_madeCells]; congr 1
  have hmk : ∀ w, (Instr.makeSlice 24 (.int .i64 ((n : Int) + 1)) (.int .i64 ((n : Int) + 1))).run Tryz.prog w = .ok (.slice (some ⟨w.heap.size, 0, none⟩) (n + 1) (n + 1)) (w.alloc (.cells mk 23)) := fun w => by
    obtain ⟨i, hi, hz, hs, hb⟩ : ∃ i, Tryz.prog.info? 23 = some i ∧ i.zero = some (.agg (List.replicate 32 (Value.int .u8 0)).toArray) ∧ i.size = 32 ∧ i.bytes = 32 := by
      have := info_hash
      cases hq : Tryz.prog.info? 23 with
      | none => rw [hq] at this; cases this
      | some i => rw [hq] at this; simp only [Option.map_some, Option.some.injEq, Prod.mk.injEq] at this; exact ⟨i, rfl, this.1, this.2.1, this.2.2⟩
    have := run_make (P := Tryz.prog) w 24 23 i (.agg (List.replicate 32 (Value.int .u8 0)).toArray) Tryz.underlying24 hi hz .i64 .i64 ((n : Int) + 1) ((n : Int) + 1) (by omega) (by omega) (by rw [hb]; omega) (by omega)
    rw [this, hs, hmk0]; rfl
  obtain ⟨wm, hwm⟩ : ∃ x, w.alloc (.cells mk 23) = x := ⟨_, rfl⟩
  have HBM : Hid (Below w.heap.size w wm) := Lib.hid (by rw [← hwm]; exact (Below.refl _ _).alloc (Nat.le_refl _) _)
  have hgm : wm.heap[w.heap.size]? = some (.cells mk 23 (0, 0)) := by rw [← hwm]; exact heap_at _ _ _ rfl
  have HTH : Hid (wm.there w.heap.size 0 ((n + 1) * 32)) := Lib.hid (fun j hj => ⟨by rw [cell_of_row wm w.heap.size (0 + j) _ 23 (0, 0) hgm, Array.getElem?_eq_getElem (by omega)]; rfl, frozen_of_row wm w.heap.size (0 + j) _ 23 hgm⟩)
  have HSM : Hid (w.heap.size < wm.heap.size) := Lib.hid (by rw [← hwm]; simp)
  have HWM := Lib.hid hwm
  have HM := Lib.hid hm
  have hn1 : (n : Int) + 1 ≤ 9223372036854775807 := by omega
  have hwr : IntKind.i64.wrap ((n : Int) + 1) = (n : Int) + 1 := IntWalk.i64_in _ (by omega)
  clear h hl hmk0 hmks hwm hgm hm
  go_enter Tryz.func30, Tryz.ntmps30
  go_upto_region 2 with fail
  rw [HWM.out]
  clear hn1 hwr hmk
  go_wp2_with fail
  go_loopw [4] (fun i wr => ∃ k : Nat, k ≤ n ∧ i = .int .i64 k ∧ Hid (∀ (i : Nat) x, i < k → l[i]? = some x → wr.rangeAt w.heap.size (i * 32) (bytesV x)) ∧ Hid (wr.there w.heap.size 0 ((n + 1) * 32)) ∧ Hid (Below w.heap.size w wr) ∧ Hid (w.heap.size < wr.heap.size)) (fun i _ => n - (intOf i).toNat)
  case atStart => exact ⟨0, Nat.zero_le _, rfl, Lib.hid (fun i x hi => by omega), HTH, HBM, HSM⟩
  case round =>
    obtain ⟨k, hk, rfl, HR, HT', HB, HS⟩ := hrel
    by_cases hlt : k < n
    · obtain ⟨p, hp⟩ : ∃ p, l[k]? = some p := ⟨_, List.getElem?_eq_getElem (by have := HLN.out; omega)⟩
      obtain ⟨g, o, rfl, gl, rp, pl⟩ := H.out.row hp
      obtain ⟨vp, evp, Hvp, Zvp, Ivp, Ovp⟩ := row_of p pl
      obtain ⟨pp, hpp⟩ : ∃ q, bytesV p = q := ⟨_, rfl⟩
      have HPV : Hid (pp.toArray = vp) := Lib.hid (by rw [← hpp]; exact Hvp.out)
      have HPL : Hid (vp.toList = bytesV p) := Lib.hid (by rw [← Hvp.out])
      have HIP : Hid ((Tryz.prog.info? 23).map (·.size) = some pp.length) := Lib.hid (by rw [← hpp, bytesV_length, pl]; kernel_rfl)
      have HRP : Hid (wr.rangeAt g (o + k * 32) pp) := Lib.hid (by rw [← hpp]; exact rangeAt_below HB.out rp gl)
      have HK := Lib.hid hp
      have HPLN := Lib.hid pl
      have i0 : (0 : Int) ≤ k := by omega
      have i1 : (k : Int) < n := by omega
      have i2 : (k : Int) < (n : Int) + 1 := by omega
      have hm9 := HM.out
      clear hpp hp rp gl evp pl
      go_wp2_with (first
        | (refine wpList_load_mid rfl 23 _ rfl g (o + k * 32) rfl pp _ HRP.out Tryz.underlying23 rfl HIP.out ?_; rw [HPV.out])
        | (refine wpList_store_mid rfl 23 _ _ rfl w.heap.size (k * 32) vp rfl rfl (there_mid HT'.out (by rw [Zvp.out]; omega)) Ivp.out Ovp.out ?_))
      go_roundw
      case rel =>
        refine ⟨k + 1, by omega, by go_num, Lib.hid (fun i x hi hx => ?_), Lib.hid (World.there_setCells HT'.out _ _ _), Lib.hid (HB.out.trans (Lib.below_setCells_w (Nat.le_refl _) _ _ _)), Lib.hid (Nat.lt_of_lt_of_le HS.out (Lib.below_setCells_w (B := 0) (Nat.zero_le _) _ _ _).size)⟩
        by_cases e : i = k
        · subst e
          rw [HK.out] at hx
          cases hx
          rw [HPL.out]
          exact World.rangeAt_setCells_same _ _ _ _ (there_mid HT'.out (by rw [bytesV_length, HPLN.out]; omega))
        · exact World.rangeAt_setCells_apart (HR.out i x (by omega) hx) _ _ _ (.inr (.inl (by rw [bytesV_length, H.out.1 x (List.mem_of_getElem? hx)]; omega)))
      case measure => simp [intOf]; omega
    · obtain rfl : k = n := by omega
      obtain ⟨vm, evm, Hvm, Zvm, Ivm, Ovm⟩ := row_of markB rfl
      have HPL : Hid (vm.toList = bytesV markB) := Lib.hid (by rw [← Hvm.out])
      have HMK : Hid (∀ w, Calls Tryz.prog 117 #[.int .i64 7777] w fun ev w' => ev = .returned (.agg vm) ∧ Below w.heap.size w w') := Lib.hid (fun w => by rw [← evm]; exact mark_any w)
      have i0 : (0 : Int) ≤ k := by omega
      have i2 : (k : Int) < (k : Int) + 1 := by omega
      have i3 : (k : Int) ≤ (k : Int) + 1 := by omega
      clear evm hlt hk
      go_wp2_with fail
      refine (HMK.out wr).mono ?_
      rintro ev w2 ⟨rfl, b2⟩
      have HT2 : Hid (w2.there w.heap.size 0 ((k + 1) * 32)) := Lib.hid (there_block HT'.out (b2.block _ HS.out))
      have HR2 : Hid (∀ (i : Nat) x, i < k → l[i]? = some x → w2.rangeAt w.heap.size (i * 32) (bytesV x)) := Lib.hid (fun i x hi hx => rangeAt_block (b2.block _ HS.out) (HR.out i x hi hx))
      have HB2 : Hid (Below w.heap.size w w2) := Lib.hid (HB.out.trans (b2.mono (by have := HS.out; omega)))
      clear b2
      go_wp2_with (refine wpList_store_mid rfl 23 _ _ rfl w.heap.size (k * 32) vm rfl rfl (there_mid HT2.out (by rw [Zvm.out]; omega)) Ivm.out Ovm.out ?_)
      go_ret
      refine ⟨rfl, ⟨H.out.1, fun i x hi => ?_, by rw [HLN.out]; exact World.there_setCells HT2.out _ _ _⟩, HB2.out.trans (Lib.below_setCells_w (Nat.le_refl _) _ _ _)⟩
      by_cases e : i < k
      · rw [List.getElem?_append_left (by rw [HLN.out]; exact e)] at hi
        exact World.rangeAt_setCells_apart (HR2.out i x e hi) _ _ _ (.inr (.inl (by rw [bytesV_length, H.out.1 x (List.mem_of_getElem? hi)]; omega)))
      · have hik : i = k := by
          have := (List.getElem?_eq_some_iff.1 hi).1
          rw [List.length_append, HLN.out] at this
          simp at this; omega
        subst hik
        rw [List.getElem?_append_right (by rw [HLN.out]; omega), HLN.out, Nat.sub_self] at hi
        cases hi
        rw [HPL.out]
        exact World.rangeAt_setCells_same _ _ _ _ (there_mid HT2.out (by rw [bytesV_length]; have : markB.length = 32 := rfl; omega))

theorem wpList_load_mid_g {P : Program} {ops : Array Oper} {rest : List Oper} {op : Oper} {a : Act} {w : World} {Q : Exit → Act → World → Prop} (hw : Region.wanted op (yielded ops a.tmps) = true) (ty : TypeId) (x : Operand) (ho : op.op = .load ty x)
    (b o : Nat) (hx : a.eval x = .pointer (some ⟨b, o, none⟩)) (cs : List Value) (d : TypeDesc) (hc : w.rangeAt b o cs)
    (hu : P.underlying ty = some d) (hd : d.isRow = true) (hi : (P.info? ty).map (·.size) = some cs.length)
    (h : wpList P ops Q rest (a.put op.dst (.agg cs.toArray)) w) : wpList P ops Q (op :: rest) a w :=
  wpList_step fun _ hK => by
    rw [if_pos hw]
    exact wp_load_mid ty x ho b o hx cs d hc hu hd hi (hK _ _ h)
set_option maxRecDepth 100000 in
set_option maxHeartbeats 4000000 in
theorem left_any (G n c : Nat) (A : Option Addr) (l : List (List UInt8)) (w : World) (hT : Twin w G l) (h : HIn w A n c l) (hm : n ≤ 1048576) :
    Calls Tryz.prog 43 #[.slice (some ⟨G, 0, none⟩) n (n + 1), .slice A n c] w fun ev w' => ev = .returned (.bool true) ∧ Below w.heap.size w w' := by
  have hl := h.2.1
  have HS : Hid (Calls Tryz.prog 54 #[.slice (some ⟨G, 0, none⟩) n (n + 1), .slice A n c] w fun ev w' => ev = .returned (.bool true) ∧ Below w.heap.size w w') := Lib.hid (by
    have := same_hashes l l (some ⟨G, 0, none⟩) A n n (n + 1) c w (by omega) (hT.hin hl hm) h
    simpa using this)
  obtain ⟨vm, evm, Hvm, Zvm, Ivm, Ovm⟩ := row_of markB rfl
  obtain ⟨pp, hpp⟩ : ∃ q, bytesV markB = q := ⟨_, rfl⟩
  have HPV : Hid (pp.toArray = vm) := Lib.hid (by rw [← hpp]; exact Hvm.out)
  have HIP : Hid ((Tryz.prog.info? 23).map (·.size) = some pp.length) := Lib.hid (by rw [← hpp, bytesV_length]; kernel_rfl)
  have HR : Hid (∀ w', Below w.heap.size w w' → w'.rangeAt G (n * 32) pp) := Lib.hid (fun w' hb => by
    rw [← hpp]
    refine rangeAt_below hb (hT.2.1 n markB ?_) hT.lt
    rw [List.getElem?_append_right (by omega), hl, Nat.sub_self]; rfl)
  have HIS : Hid (∀ w, Calls Tryz.prog 135 #[.agg vm, .int .i64 7777] w fun ev w' => ev = .returned (.bool true) ∧ Below w.heap.size w w') := Lib.hid (fun w => by rw [← evm]; exact ismark_any w)
  have i0 : (0 : Int) ≤ n := by omega
  have i2 : (n : Int) < (n : Int) + 1 := by omega
  have i3 : (0 : Int) ≤ (n : Int) + 1 := by omega
  clear hT h hl hpp evm
  go_enter Tryz.func43, Tryz.ntmps43
  go_wp2_with fail
  refine HS.out.mono ?_
  rintro ev w1 ⟨rfl, b1⟩
  have HR1 : Hid (w1.rangeAt G (n * 32) pp) := Lib.hid (HR.out w1 b1)
  have HB1 := Lib.hid b1
  clear b1
  go_wp2_with (refine wpList_load_mid_g rfl 23 _ rfl G (n * 32) rfl pp _ HR1.out Tryz.underlying23 rfl HIP.out ?_; rw [HPV.out])
  refine (HIS.out w1).mono ?_
  rintro ev w2 ⟨rfl, b2⟩
  have HB2 := Lib.hid (HB1.out.trans (b2.mono HB1.out.size))
  clear b2
  go_wp2_with fail
  go_ret
  exact ⟨rfl, HB2.out⟩

theorem isat_nil (w : World) : Calls Tryz.prog 32 #[.nilIface, .int .i64 0, .int .i64 0] w fun ev w' => ev = .returned (.bool true) ∧ Below w.heap.size w w' := by
  go_enter Tryz.func32, Tryz.ntmps32
  go_wp2
  go_ret
  exact ⟨rfl, Below.refl _ _⟩
/-- what a call hands back for the error of number k -/
def errK (a : Nat → Addr) (k : Nat) : Value := if k = 0 then .nilIface else errV a k
theorem same_nil (w : World) : Calls Tryz.prog 8 #[.nilIface, .agg #[.int .i64 0, .int .i64 0]] w fun ev w' => ev = .returned (.bool true) ∧ Below w.heap.size w w' := by
  have hbx : (Tryz.prog.info? 34).map (·.size) = some 2 := by kernel_rfl
  go_enter Tryz.func8, Tryz.ntmps8
  go_wp2_with fail
  refine (isat_nil _).mono ?_
  rintro ev w1 ⟨rfl, b1⟩
  have HB := Lib.hid (((Below.refl _ w).alloc (Nat.le_refl _) _).trans (b1.mono (by simp)))
  clear b1
  go_wp2
  go_ret
  exact ⟨rfl, HB.out⟩
theorem same_sent (a : Nat → Addr) (B k : Nat) (w : World) (hL : Laid B a w) (h1 : 1 ≤ k) (h2 : k ≤ 16) : Calls Tryz.prog 8 #[errV a k, .agg #[.int .i64 k, .int .i64 (-1)]] w fun ev w' => ev = .returned (.bool true) ∧ Below w.heap.size w w' := by
  have hbx : (Tryz.prog.info? 34).map (·.size) = some 2 := by kernel_rfl
  have HI := Lib.hid (is_sent a B k (w.alloc (.cells #[.int .i64 k, .int .i64 (-1)] 34)) (hL.below (((Below.refl _ w).alloc (Nat.le_refl _) _).mono hL.size)) h1 h2)
  clear hL h1 h2
  go_enter Tryz.func8, Tryz.ntmps8
  go_wp2_with fail
  refine HI.out.mono ?_
  rintro ev w1 ⟨rfl, b1⟩
  have HB := Lib.hid (((Below.refl _ w).alloc (Nat.le_refl _) _).trans (b1.mono (by simp)))
  clear b1
  go_wp2
  go_ret
  exact ⟨rfl, HB.out⟩
theorem same_fault (a : Nat → Addr) (B k : Nat) (w : World) (hL : Laid B a w) (h2 : k ≤ 16) : Calls Tryz.prog 8 #[errK a k, faultV k] w fun ev w' => ev = .returned (.bool true) ∧ Below w.heap.size w w' := by
  unfold errK faultV
  by_cases h : k = 0
  · subst h; exact same_nil w
  · rw [if_neg h, if_neg h]; exact same_sent a B k w hL (by omega) h2

end Go.Proofs.YtnpblpbcchminaaGreatDoor

/- A new row, a row written: what is known of the others stays. No program in sight. -/
namespace Go.Proofs.YtnpblpbcchminaaGreatDoor
open Go.ChangeShapes Go.WideShapes Go.ChangeAt Go.RowKit
theorem st_alloc {pred : Nat → Prop} {base w n : World} {g : Nat} {c : Array Value} {t : TypeId} (h : But pred base w) (hn : w.alloc (.cells c t) = n) (hg : w.heap.size = g) : But pred base n ∧ n.heap[g]? = some (.cells c t (0, 0)) ∧ base.heap.size ≤ g ∧ ∀ (k : Nat) (x : Obj), w.heap[k]? = some x → n.heap[k]? = some x ∧ k < g := by
  subst hn; subst hg
  have hb : Below w.heap.size w (w.alloc (.cells c t)) := (Below.refl _ _).alloc (Nat.le_refl _) _
  refine ⟨h.below hb, heap_at _ _ _ rfl, h.size, fun k x hx => ?_⟩
  have hk := (Array.getElem?_eq_some_iff.1 hx).1
  exact ⟨(hb.block _ hk).trans hx, hk⟩
theorem st_row {pred : Nat → Prop} {base w n : World} {b : Nat} {c v : Array Value} {t : TypeId} {fr : Nat × Nat} (h : But pred base w) (hn : w.setRow b v = n) (hp : b < base.heap.size → pred b) (hr : w.heap[b]? = some (.cells c t fr)) : But pred base n ∧ n.heap[b]? = some (.cells v t fr) ∧ ∀ (k : Nat) (x : Obj), k ≠ b → w.heap[k]? = some x → n.heap[k]? = some x := by
  subst hn
  exact ⟨But.setRow h b v hp, setRow_heap _ _ _ _ _ _ hr, fun k x hk hx => (setRow_other _ _ _ _ hk).trans hx⟩
theorem st_call {pred : Nat → Prop} {base w n : World} (h : But pred base w) (hb : Below w.heap.size w n) : But pred base n ∧ ∀ (k : Nat) (x : Obj), w.heap[k]? = some x → n.heap[k]? = some x :=
  ⟨h.below hb, fun _ _ hx => (hb.block _ (Array.getElem?_eq_some_iff.1 hx).1).trans hx⟩
end Go.Proofs.YtnpblpbcchminaaGreatDoor

