import Derived.Test.YtaekabhcgdjhfaaDoorSameHashes
import Derived.Deep.Cut
import Derived.Laws.MakeOwn
import Derived.Deep.MidRow
import Derived.BigRegion
import Derived.Deep.DeepCutAuto
/- Faults as the reference has them. No condition. -/
namespace Go.Proofs.YtaekabhcgdjhfaaDoor
open Go.ChangeShapes Go.WideShapes Go.ChangeAt Go.RowKit
set_option linter.unusedVariables false
/-- a fault as the reference has it: its number, no place -/
def faultV (k : Nat) : Value := .agg #[.int .i64 k, .int .i64 (if k = 0 then 0 else -1)]

theorem plain2 (w : World) : Calls Tryd.prog 44 #[.int .i64 2] w fun ev w' => ev = .returned (.agg #[.int .i64 2, .int .i64 (-1)]) ∧ Below w.heap.size w w' := by
  go_enter Tryd.func44, Tryd.ntmps44
  go_wp2
  refine bodyPost_ret (v := .agg #[.int .i64 2, .int .i64 (-1)]) (by simp [results, Tryd.results44, go_sem]) rfl ⟨rfl, ?_⟩
  repeat (first | exact Below.refl _ _ | (refine below_drewN ?_) | (refine Below.drew ?_) | (refine Below.alloc ?_ (by simp; try omega) _) | (refine Below.setCell ?_ (by simp; try omega) _))

theorem plain5 (w : World) : Calls Tryd.prog 44 #[.int .i64 5] w fun ev w' => ev = .returned (.agg #[.int .i64 5, .int .i64 (-1)]) ∧ Below w.heap.size w w' := by
  go_enter Tryd.func44, Tryd.ntmps44
  go_wp2
  refine bodyPost_ret (v := .agg #[.int .i64 5, .int .i64 (-1)]) (by simp [results, Tryd.results44, go_sem]) rfl ⟨rfl, ?_⟩
  repeat (first | exact Below.refl _ _ | (refine below_drewN ?_) | (refine Below.drew ?_) | (refine Below.alloc ?_ (by simp; try omega) _) | (refine Below.setCell ?_ (by simp; try omega) _))

theorem results_row_row {P : Program} {fn : Func} {p q : Tmp} {ty ty2 : TypeId} (h : fn.results = #[.cell p ty, .cell q ty2]) (tmps : Array Value) (w : World) (g g2 : Nat) (t t2 : TypeId) (cs cs2 : Array Value) (fr fr2 : Nat × Nat) (d d2 : TypeDesc)
    (hp : tmps.getD p undef = .pointer (some ⟨g, 0, none⟩)) (hg : w.heap[g]? = some (.cells cs t fr)) (hp2 : tmps.getD q undef = .pointer (some ⟨g2, 0, none⟩)) (hg2 : w.heap[g2]? = some (.cells cs2 t2 fr2))
    (hu : P.underlying ty = some d) (hd : (match d with | .struct _ | .array _ _ => true | _ => false) = true) (hi : (P.info? ty).map (·.size) = some cs.size)
    (hu2 : P.underlying ty2 = some d2) (hd2 : (match d2 with | .struct _ | .array _ _ => true | _ => false) = true) (hi2 : (P.info? ty2).map (·.size) = some cs2.size) :
    (results fn tmps).run P w = .ok (.tuple #[.agg cs, .agg cs2]) w := by
  rw [Array.getD_eq_getD_getElem?] at hp hp2
  simp only [results, h]
  simp [Sem.run_bind, hp, hp2, asAddr, run_loadVar_row w g t ty cs fr d hg hu hd hi, run_loadVar_row w g2 t2 ty2 cs2 fr2 d2 hg2 hu2 hd2 hi2, Result.andThen]
/-- a fault as a row of cells -/
theorem fault_of (k : Nat) : ∃ vf : Array Value, faultV k = .agg vf ∧ Hid (vf = #[.int .i64 k, .int .i64 (if k = 0 then 0 else -1)]) ∧ Hid (vf.size = 2) ∧ Hid ((Tryd.prog.info? 66).map (·.size) = some vf.size) ∧ Hid (vf.all (·.oneCell') = true) := by
  exact ⟨_, rfl, Lib.hid rfl, Lib.hid rfl, Lib.hid (by kernel_rfl), Lib.hid (by simp [Value.oneCell'])⟩
end Go.Proofs.YtaekabhcgdjhfaaDoor

/- cartularylaw01.TwinHashes: a copy with a mark behind it; LeftHashes: it is so still. No condition. -/
namespace Go.Proofs.YtaekabhcgdjhfaaDoor
open Go.ChangeShapes Go.WideShapes Go.ChangeAt Go.RowKit
set_option linter.unusedVariables false
/-- the mark -/
def markB : List UInt8 := [97, 30] ++ List.replicate 29 0 ++ [201]
theorem markB_length : markB.length = 32 := rfl
theorem markB_v : hv markB = .agg #[.int .u8 97, .int .u8 30, .int .u8 0, .int .u8 0, .int .u8 0, .int .u8 0, .int .u8 0, .int .u8 0, .int .u8 0, .int .u8 0, .int .u8 0, .int .u8 0, .int .u8 0, .int .u8 0, .int .u8 0, .int .u8 0, .int .u8 0, .int .u8 0, .int .u8 0, .int .u8 0, .int .u8 0, .int .u8 0, .int .u8 0, .int .u8 0, .int .u8 0, .int .u8 0, .int .u8 0, .int .u8 0, .int .u8 0, .int .u8 0, .int .u8 0, .int .u8 201] := by kernel_rfl
theorem rangeAt_rows : ∀ {l : List (List UInt8)} {w : World} {g o : Nat} (_ : H32 l) (_ : ∀ (i : Nat) x, l[i]? = some x → w.rangeAt g (o + i * 32) (bytesV x)), w.rangeAt g o (hashCells l)
  | [], _, _, _, _, _ => fun j v hj => by simp [hashCells] at hj
  | x :: r, w, g, o, h32, h => fun j v hj => by
    have hx : x.length = 32 := h32 x (by simp)
    rw [hashCells_cons] at hj
    by_cases hl : j < 32
    · rw [List.getElem?_append_left (by rw [bytesV_length]; omega)] at hj
      have := h 0 x (by simp) j v hj
      rwa [Nat.zero_mul, Nat.add_zero] at this
    · rw [List.getElem?_append_right (by rw [bytesV_length]; omega), bytesV_length, hx] at hj
      have := rangeAt_rows (l := r) (g := g) (o := o + 32) (w := w) (fun y hy => h32 y (by simp [hy])) (fun i y hi => by
        have := h (i + 1) y (by simpa using hi)
        rwa [show o + (i + 1) * 32 = o + 32 + i * 32 by omega] at this) (j - 32) v hj
      rwa [show o + 32 + (j - 32) = o + j by omega] at this
/-- a list's copy lies in block G, the mark behind it -/
def Twin (w : World) (G : Nat) (l : List (List UInt8)) : Prop := H32 l ∧ (∀ (i : Nat) x, (l ++ [markB])[i]? = some x → w.rangeAt G (i * 32) (bytesV x)) ∧ w.there G 0 ((l.length + 1) * 32)
theorem Twin.hin {w : World} {G n : Nat} {l : List (List UInt8)} (h : Twin w G l) (hn : l.length = n) (hm : n ≤ 1048576) : HIn w (some ⟨G, 0, none⟩) n (n + 1) l :=
  ⟨h.1, hn, by omega, by omega, .inr ⟨G, 0, rfl, rangeAt_rows h.1 (fun i x hi => by
    rw [Nat.zero_add]
    refine h.2.1 i x ?_
    rw [List.getElem?_append_left (List.getElem?_eq_some_iff.1 hi).1]; exact hi)⟩⟩
theorem there_mid {w : World} {G m o k : Nat} (h : w.there G 0 m) (hk : o + k ≤ m) : w.there G o k := fun j hj => by
  have := h (o + j) (by omega)
  rwa [Nat.zero_add] at this
theorem there_block {w w' : World} {G o m : Nat} (h : w.there G o m) (hb : w'.heap[G]? = w.heap[G]?) : w'.there G o m := fun j hj =>
  ⟨by have := (h j hj).1; rw [Option.isSome_iff_exists] at this ⊢; obtain ⟨v, hv⟩ := this; exact ⟨v, cell_block hb hv⟩, frozen_block hb (h j hj).2⟩
theorem Twin.lt {w : World} {G : Nat} {l : List (List UInt8)} (h : Twin w G l) : G < w.heap.size := by
  have := (h.2.2 0 (by omega)).1
  rw [Option.isSome_iff_exists] at this
  obtain ⟨v, hv⟩ := this
  exact block_of_cell hv
theorem Twin.same {w w' : World} {G : Nat} {l : List (List UInt8)} (h : Twin w G l) (hb : w'.heap[G]? = w.heap[G]?) : Twin w' G l :=
  ⟨h.1, fun i x hi => rangeAt_block hb (h.2.1 i x hi), there_block h.2.2 hb⟩
theorem Twin.below {w w' : World} {G : Nat} {l : List (List UInt8)} (h : Twin w G l) (hb : Below w.heap.size w w') : Twin w' G l := h.same (hb.block G h.lt)
theorem wpList_load_mid_g {P : Program} {ops : Array Oper} {rest : List Oper} {op : Oper} {a : Act} {w : World} {Q : Exit → Act → World → Prop} (hw : Region.wanted op (yielded ops a.tmps) = true) (ty : TypeId) (x : Operand) (ho : op.op = .load ty x)
    (b o : Nat) (hx : a.eval x = .pointer (some ⟨b, o, none⟩)) (cs : List Value) (d : TypeDesc) (hc : w.rangeAt b o cs)
    (hu : P.underlying ty = some d) (hd : d.isRow = true) (hi : (P.info? ty).map (·.size) = some cs.length)
    (h : wpList P ops Q rest (a.put op.dst (.agg cs.toArray)) w) : wpList P ops Q (op :: rest) a w :=
  wpList_step fun _ hK => by
    rw [if_pos hw]
    exact wp_load_mid ty x ho b o hx cs d hc hu hd hi (hK _ _ h)
theorem isat_nil (w : World) : Calls Tryd.prog 45 #[.nilIface, .int .i64 0, .int .i64 0] w fun ev w' => ev = .returned (.bool true) ∧ Below w.heap.size w w' := by
  go_enter Tryd.func45, Tryd.ntmps45
  go_wp2
  go_ret
  exact ⟨rfl, Below.refl _ _⟩
/-- what a call hands back for the error of number k -/
def errK (a : Nat → Addr) (k : Nat) : Value := if k = 0 then .nilIface else errV a k
theorem same_nil (w : World) : Calls Tryd.prog 28 #[.nilIface, .agg #[.int .i64 0, .int .i64 0]] w fun ev w' => ev = .returned (.bool true) ∧ Below w.heap.size w w' := by
  have hbx : (Tryd.prog.info? 66).map (·.size) = some 2 := by kernel_rfl
  go_enter Tryd.func28, Tryd.ntmps28
  go_wp2_with fail
  refine (isat_nil _).mono ?_
  rintro ev w1 ⟨rfl, b1⟩
  have HB := Lib.hid (((Below.refl _ w).alloc (Nat.le_refl _) _).trans (b1.mono (by simp)))
  clear b1
  go_wp2
  go_ret
  exact ⟨rfl, HB.out⟩
theorem same_sent (a : Nat → Addr) (B k : Nat) (w : World) (hL : Laid B a w) (h1 : 1 ≤ k) (h2 : k ≤ 16) : Calls Tryd.prog 28 #[errV a k, .agg #[.int .i64 k, .int .i64 (-1)]] w fun ev w' => ev = .returned (.bool true) ∧ Below w.heap.size w w' := by
  have hbx : (Tryd.prog.info? 66).map (·.size) = some 2 := by kernel_rfl
  have HI := Lib.hid (is_sent a B k (w.alloc (.cells #[.int .i64 k, .int .i64 (-1)] 66)) (hL.below (((Below.refl _ w).alloc (Nat.le_refl _) _).mono hL.size)) h1 h2)
  clear hL h1 h2
  go_enter Tryd.func28, Tryd.ntmps28
  go_wp2_with fail
  refine HI.out.mono ?_
  rintro ev w1 ⟨rfl, b1⟩
  have HB := Lib.hid (((Below.refl _ w).alloc (Nat.le_refl _) _).trans (b1.mono (by simp)))
  clear b1
  go_wp2
  go_ret
  exact ⟨rfl, HB.out⟩
theorem same_fault (a : Nat → Addr) (B k : Nat) (w : World) (hL : Laid B a w) (h2 : k ≤ 16) : Calls Tryd.prog 28 #[errK a k, faultV k] w fun ev w' => ev = .returned (.bool true) ∧ Below w.heap.size w w' := by
  unfold errK faultV
  by_cases h : k = 0
  · subst h; exact same_nil w
  · rw [if_neg h, if_neg h]; exact same_sent a B k w hL (by omega) h2

end Go.Proofs.YtaekabhcgdjhfaaDoor

