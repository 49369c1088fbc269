import Derived.Test.YtchfbdbgmlcfiaaGreatDoorRefSays
import Derived.Test.YtchfbdbgmlcfiaaGreatDoorRefWrong
/- cartularyref19.Root: the fault, or the root. No condition. -/
namespace Go.Proofs.YtchfbdbgmlcfiaaGreatDoor
open Go.ChangeShapes Go.WideShapes Go.ChangeAt Go.RowKit
set_option linter.unusedVariables false
theorem results_row_row {P : Program} {fn : Func} {p q : Tmp} {ty ty2 : TypeId} (h : fn.results = #[.cell p ty, .cell q ty2]) (tmps : Array Value) (w : World) (g g2 : Nat) (t t2 : TypeId) (cs cs2 : Array Value) (fr fr2 : Nat × Nat) (d d2 : TypeDesc)
    (hp : tmps.getD p undef = .pointer (some ⟨g, 0, none⟩)) (hg : w.heap[g]? = some (.cells cs t fr)) (hp2 : tmps.getD q undef = .pointer (some ⟨g2, 0, none⟩)) (hg2 : w.heap[g2]? = some (.cells cs2 t2 fr2))
    (hu : P.underlying ty = some d) (hd : (match d with | .struct _ | .array _ _ => true | _ => false) = true) (hi : (P.info? ty).map (·.size) = some cs.size)
    (hu2 : P.underlying ty2 = some d2) (hd2 : (match d2 with | .struct _ | .array _ _ => true | _ => false) = true) (hi2 : (P.info? ty2).map (·.size) = some cs2.size) :
    (results fn tmps).run P w = .ok (.tuple #[.agg cs, .agg cs2]) w := by
  rw [Array.getD_eq_getD_getElem?] at hp hp2
  simp only [results, h]
  simp [Sem.run_bind, hp, hp2, asAddr, run_loadVar_row w g t ty cs fr d hg hu hd hi, run_loadVar_row w g2 t2 ty2 cs2 fr2 d2 hg2 hu2 hd2 hi2, Result.andThen]
/-- a fault as a row of cells -/
theorem fault_of (k : Nat) : ∃ vf : Array Value, faultV k = .agg vf ∧ Hid (vf = #[.int .i64 k, .int .i64 (if k = 0 then 0 else -1)]) ∧ Hid (vf.size = 2) ∧ Hid ((Tryz.prog.info? 29).map (·.size) = some vf.size) ∧ Hid (vf.all (·.oneCell') = true) := by
  exact ⟨_, rfl, Lib.hid rfl, Lib.hid rfl, Lib.hid (by kernel_rfl), Lib.hid (by simp [Value.oneCell'])⟩
theorem root_len {x sz : Int} {L P : List (List UInt8)} (hl : H32 L) (hp : H32 P) (hs0 : 0 ≤ sz) (hx0 : 0 ≤ x) (hk0 : batchK x sz L.length P.length = 0) : (rootB x sz L P).length = 32 := by
  have hbk := hk0
  unfold batchK at hbk
  have hL0 : L.length ≠ 0 := fun e => by rw [if_pos e] at hbk; cases hbk
  rw [if_neg hL0] at hbk
  have hrg : ¬ (9223372036854775808 < sz ∨ sz < x ∨ sz - x < (L.length : Int)) := fun e => by rw [if_pos e] at hbk; cases hbk
  rw [if_neg hrg] at hbk
  have hbl : (batchL 64 x (x + L.length) 0 sz).length = P.length := Classical.not_not.1 (fun e => by rw [if_pos e] at hbk; cases hbk)
  exact sayF_len32 64 x L hl 0 sz P hp (by omega) (by omega) (by rw [pow2_64]; omega)
end Go.Proofs.YtchfbdbgmlcfiaaGreatDoor

/- cartularyref19.Verify: the fault. No condition. -/
namespace Go.Proofs.YtchfbdbgmlcfiaaGreatDoor
open Go.ChangeShapes Go.WideShapes Go.ChangeAt Go.RowKit
set_option linter.unusedVariables false
/-- which fault Verify tells -/
def verK (x sz : Int) (L P : List (List UInt8)) (t : List UInt8) : Nat := if batchK x sz L.length P.length ≠ 0 then batchK x sz L.length P.length else if rootB x sz L P = t then 0 else 10
end Go.Proofs.YtchfbdbgmlcfiaaGreatDoor

