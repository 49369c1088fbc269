/- Faults as the reference has them. No condition. -/
import Derived.Test.YtdodfeoaioolnaaDoorSameHashes
import Derived.Deep.Cut
namespace Go.Proofs.YtdodfeoaioolnaaDoor
open Go.ChangeShapes Go.WideShapes Go.ChangeAt Go.RowKit
set_option linter.unusedVariables false
/-- a fault as the reference has it: its number, no place -/
def faultV (k : Nat) : Value := .agg #[.int .i64 k, .int .i64 (if k = 0 then 0 else -1)]

theorem plain2 (w : World) : Calls Tryd.prog 31 #[.int .i64 2] w fun ev w' => ev = .returned (.agg #[.int .i64 2, .int .i64 (-1)]) ∧ Below w.heap.size w w' := by
  go_enter Tryd.func31, Tryd.ntmps31
  go_wp2
  refine bodyPost_ret (v := .agg #[.int .i64 2, .int .i64 (-1)]) (by simp [results, Tryd.results31, go_sem]) rfl ⟨rfl, ?_⟩
  repeat (first | exact Below.refl _ _ | (refine below_drewN ?_) | (refine Below.drew ?_) | (refine Below.alloc ?_ (by simp; try omega) _) | (refine Below.setCell ?_ (by simp; try omega) _))

theorem plain5 (w : World) : Calls Tryd.prog 31 #[.int .i64 5] w fun ev w' => ev = .returned (.agg #[.int .i64 5, .int .i64 (-1)]) ∧ Below w.heap.size w w' := by
  go_enter Tryd.func31, Tryd.ntmps31
  go_wp2
  refine bodyPost_ret (v := .agg #[.int .i64 5, .int .i64 (-1)]) (by simp [results, Tryd.results31, go_sem]) rfl ⟨rfl, ?_⟩
  repeat (first | exact Below.refl _ _ | (refine below_drewN ?_) | (refine Below.drew ?_) | (refine Below.alloc ?_ (by simp; try omega) _) | (refine Below.setCell ?_ (by simp; try omega) _))

theorem results_row_row {P : Program} {fn : Func} {p q : Tmp} {ty ty2 : TypeId} (h : fn.results = #[.cell p ty, .cell q ty2]) (tmps : Array Value) (w : World) (g g2 : Nat) (t t2 : TypeId) (cs cs2 : Array Value) (fr fr2 : Nat × Nat) (d d2 : TypeDesc)
    (hp : tmps.getD p undef = .pointer (some ⟨g, 0, none⟩)) (hg : w.heap[g]? = some (.cells cs t fr)) (hp2 : tmps.getD q undef = .pointer (some ⟨g2, 0, none⟩)) (hg2 : w.heap[g2]? = some (.cells cs2 t2 fr2))
    (hu : P.underlying ty = some d) (hd : (match d with | .struct _ | .array _ _ => true | _ => false) = true) (hi : (P.info? ty).map (·.size) = some cs.size)
    (hu2 : P.underlying ty2 = some d2) (hd2 : (match d2 with | .struct _ | .array _ _ => true | _ => false) = true) (hi2 : (P.info? ty2).map (·.size) = some cs2.size) :
    (results fn tmps).run P w = .ok (.tuple #[.agg cs, .agg cs2]) w := by
  rw [Array.getD_eq_getD_getElem?] at hp hp2
  simp only [results, h]
  simp [Sem.run_bind, hp, hp2, asAddr, run_loadVar_row w g t ty cs fr d hg hu hd hi, run_loadVar_row w g2 t2 ty2 cs2 fr2 d2 hg2 hu2 hd2 hi2, Result.andThen]
/-- a fault as a row of cells -/
theorem fault_of (k : Nat) : ∃ vf : Array Value, faultV k = .agg vf ∧ Hid (vf = #[.int .i64 k, .int .i64 (if k = 0 then 0 else -1)]) ∧ Hid (vf.size = 2) ∧ Hid ((Tryd.prog.info? 32).map (·.size) = some vf.size) ∧ Hid (vf.all (·.oneCell') = true) := by
  exact ⟨_, rfl, Lib.hid rfl, Lib.hid rfl, Lib.hid (by kernel_rfl), Lib.hid (by simp [Value.oneCell'])⟩
end Go.Proofs.YtdodfeoaioolnaaDoor
