/- Small contracts behind the laws of layer 8. No condition. -/
import Derived.Test.YtmfngcnmacjbfaaDoorNaiveLives
import Derived.Test.YtmfngcnmacjbfaaDoorBeyond
import Derived.Test.YtmfngcnmacjbfaaDoorTextsArg
namespace Go.Proofs.YtmfngcnmacjbfaaDoor
open Go.ChangeShapes Go.WideShapes Go.ChangeAt Go.RowKit
set_option linter.unusedVariables false
theorem beyond2 (x0 x1 : Nat) (w : World) (hx0 : x0 ≤ 9000000000000000000) (hx1 : x1 ≤ 9000000000000000000) :
    Calls Tryd.prog 23 #[.slice (some ⟨w.heap.size, 0, none⟩) 2 2] (w.alloc (.cells #[.int .i64 (x0 : Nat), .int .i64 (x1 : Nat)] 3)) fun ev w' => ev = .returned (.bool (decide (1048576 < x0 + x1))) ∧ w' = (w.alloc (.cells #[.int .i64 (x0 : Nat), .int .i64 (x1 : Nat)] 3)) := by
  have := beyond_any [x0, x1] w.heap.size 2 2 (w.alloc (.cells #[.int .i64 (x0 : Nat), .int .i64 (x1 : Nat)] 3)) rfl (by simp; omega) (fun j x hj => by
    refine cell_new _ _ _ _ ?_
    match j, hj with
    | 0, hj => simp at hj; subst hj; rfl
    | 1, hj => simp at hj; subst hj; rfl
    | j + 2, hj => simp at hj) (by omega)
  have hs : [x0, x1].sum = x0 + x1 := by simp <;> omega
  rw [hs] at this
  exact this.mono (fun _ _ h => ⟨h.1, h.2.symm⟩)
theorem beyond4 (x0 x1 x2 x3 : Nat) (w : World) (hx0 : x0 ≤ 9000000000000000000) (hx1 : x1 ≤ 9000000000000000000) (hx2 : x2 ≤ 9000000000000000000) (hx3 : x3 ≤ 9000000000000000000) :
    Calls Tryd.prog 23 #[.slice (some ⟨w.heap.size, 0, none⟩) 4 4] (w.alloc (.cells #[.int .i64 (x0 : Nat), .int .i64 (x1 : Nat), .int .i64 (x2 : Nat), .int .i64 (x3 : Nat)] 3)) fun ev w' => ev = .returned (.bool (decide (1048576 < x0 + x1 + x2 + x3))) ∧ w' = (w.alloc (.cells #[.int .i64 (x0 : Nat), .int .i64 (x1 : Nat), .int .i64 (x2 : Nat), .int .i64 (x3 : Nat)] 3)) := by
  have := beyond_any [x0, x1, x2, x3] w.heap.size 4 4 (w.alloc (.cells #[.int .i64 (x0 : Nat), .int .i64 (x1 : Nat), .int .i64 (x2 : Nat), .int .i64 (x3 : Nat)] 3)) rfl (by simp; omega) (fun j x hj => by
    refine cell_new _ _ _ _ ?_
    match j, hj with
    | 0, hj => simp at hj; subst hj; rfl
    | 1, hj => simp at hj; subst hj; rfl
    | 2, hj => simp at hj; subst hj; rfl
    | 3, hj => simp at hj; subst hj; rfl
    | j + 4, hj => simp at hj) (by omega)
  have hs : [x0, x1, x2, x3].sum = x0 + x1 + x2 + x3 := by simp <;> omega
  rw [hs] at this
  exact this.mono (fun _ _ h => ⟨h.1, h.2.symm⟩)
/-- a row compared with itself; with the hash of noughts -/
theorem eq_self (p : List UInt8) (hp : p.length = 32) (vp : Array Value) (h : hv p = .agg vp) (w : World) : (Op.equalIn 10000 29 (.agg vp) (.agg vp)).run Tryd.prog w = .ok true w := by
  rw [eq_hash p p hp hp vp vp h h w]; simp
theorem eq_zero (vz : Array Value) (h : hv zeroH = .agg vz) (w : World) : (Op.equalIn 10000 29 (.agg vz) (.agg #[.int .u8 0, .int .u8 0, .int .u8 0, .int .u8 0, .int .u8 0, .int .u8 0, .int .u8 0, .int .u8 0, .int .u8 0, .int .u8 0, .int .u8 0, .int .u8 0, .int .u8 0, .int .u8 0, .int .u8 0, .int .u8 0, .int .u8 0, .int .u8 0, .int .u8 0, .int .u8 0, .int .u8 0, .int .u8 0, .int .u8 0, .int .u8 0, .int .u8 0, .int .u8 0, .int .u8 0, .int .u8 0, .int .u8 0, .int .u8 0, .int .u8 0, .int .u8 0])).run Tryd.prog w = .ok true w := by
  rw [eq_hash zeroH zeroH zeroH_length zeroH_length vz _ h (by rw [zeroH_v]; rfl) w]; simp
end Go.Proofs.YtmfngcnmacjbfaaDoor
