import Derived.Test.YtnpblpbcchminaaGreatDoorRows
import Derived.LaidEql
import Derived.Stop.Asserts
import Derived.RowKitTokens
import Derived.Below
import Derived.Test.YtnpblpbcchminaaGreatDoorKbMem
import Derived.BigQuiet
import Derived.Deep.QuietTactic
/- The errors of package api: what a walk may use of them, and the contracts of errors.Is and errors.As at them. Condition: the package-level variables read as listed. -/
namespace Go.Proofs.YtnpblpbcchminaaGreatDoor
open Go.ChangeShapes Go.WideShapes Go.ChangeAt Go.RowKit Go.Extern.Stop Go.Stop Go.Extern
set_option linter.unusedVariables false

/-- the error of number k -/
def errV (a : Nat → Addr) (k : Nat) : Value := .iface 330 (.pointer (some (a k)))

/-- In world w the errors' variables hold what they hold at the start: the error k is a pointer to a k; all that lies below block B. -/
structure Laid (B : Nat) (a : Nat → Addr) (w : World) : Prop where
  size : B ≤ w.heap.size
  low : 18 ≤ B
  e1 : w.cell? ⟨2, 0, none⟩ = some (.iface 330 (.pointer (some (a 1))))
  e2 : w.cell? ⟨0, 0, none⟩ = some (.iface 330 (.pointer (some (a 2))))
  e3 : w.cell? ⟨4, 0, none⟩ = some (.iface 330 (.pointer (some (a 3))))
  e4 : w.cell? ⟨6, 0, none⟩ = some (.iface 330 (.pointer (some (a 4))))
  e5 : w.cell? ⟨7, 0, none⟩ = some (.iface 330 (.pointer (some (a 5))))
  e6 : w.cell? ⟨8, 0, none⟩ = some (.iface 330 (.pointer (some (a 6))))
  e7 : w.cell? ⟨9, 0, none⟩ = some (.iface 330 (.pointer (some (a 7))))
  e8 : w.cell? ⟨10, 0, none⟩ = some (.iface 330 (.pointer (some (a 8))))
  e9 : w.cell? ⟨11, 0, none⟩ = some (.iface 330 (.pointer (some (a 9))))
  e10 : w.cell? ⟨5, 0, none⟩ = some (.iface 330 (.pointer (some (a 10))))
  e11 : w.cell? ⟨3, 0, none⟩ = some (.iface 330 (.pointer (some (a 11))))
  e12 : w.cell? ⟨1, 0, none⟩ = some (.iface 330 (.pointer (some (a 12))))
  e13 : w.cell? ⟨12, 0, none⟩ = some (.iface 330 (.pointer (some (a 13))))
  e14 : w.cell? ⟨13, 0, none⟩ = some (.iface 330 (.pointer (some (a 14))))
  e15 : w.cell? ⟨14, 0, none⟩ = some (.iface 330 (.pointer (some (a 15))))
  e16 : w.cell? ⟨15, 0, none⟩ = some (.iface 330 (.pointer (some (a 16))))
  ety : w.cell? ⟨16, 0, none⟩ = some (.iface 303 (.agg #[.pointer (some ⟨21, 31, none⟩)]))
  dist : ∀ i j, 1 ≤ i → i ≤ 16 → 1 ≤ j → j ≤ 16 → i ≠ j → a i ≠ a j
  row : ∀ i, 1 ≤ i → i ≤ 16 → ∃ c t, w.heap[(a i).block]? = some (.cells c t (0, 0))
  lt : ∀ i, 1 ≤ i → i ≤ 16 → (a i).block < B

theorem Laid.below {B : Nat} {a : Nat → Addr} {w w' : World} (h : Laid B a w) (hb : Below B w w') : Laid B a w' := by
  have hc : ∀ g o, g < 18 → w'.cell? ⟨g, o, none⟩ = w.cell? ⟨g, o, none⟩ := fun g o hg => hb.cell (p := ⟨g, o, none⟩) (Nat.lt_of_lt_of_le hg h.low)
  exact { size := Nat.le_trans h.size hb.size, low := h.low
          e1 := (hc _ _ (by decide)).trans h.e1
          e2 := (hc _ _ (by decide)).trans h.e2
          e3 := (hc _ _ (by decide)).trans h.e3
          e4 := (hc _ _ (by decide)).trans h.e4
          e5 := (hc _ _ (by decide)).trans h.e5
          e6 := (hc _ _ (by decide)).trans h.e6
          e7 := (hc _ _ (by decide)).trans h.e7
          e8 := (hc _ _ (by decide)).trans h.e8
          e9 := (hc _ _ (by decide)).trans h.e9
          e10 := (hc _ _ (by decide)).trans h.e10
          e11 := (hc _ _ (by decide)).trans h.e11
          e12 := (hc _ _ (by decide)).trans h.e12
          e13 := (hc _ _ (by decide)).trans h.e13
          e14 := (hc _ _ (by decide)).trans h.e14
          e15 := (hc _ _ (by decide)).trans h.e15
          e16 := (hc _ _ (by decide)).trans h.e16
          ety := (hc _ _ (by decide)).trans h.ety
          dist := h.dist, lt := h.lt
          row := fun i h1 h2 => by obtain ⟨c, t, e⟩ := h.row i h1 h2; exact ⟨c, t, (hb.block _ (h.lt i h1 h2)).trans e⟩ }
theorem Laid.grow {B B' : Nat} {a : Nat → Addr} {w w' : World} (h : Laid B a w) (hb : Below B' w w') (hB : w.heap.size ≤ B') : Laid B a w' := h.below (hb.mono (Nat.le_trans h.size hB))

/-! ### closed facts: what 'reflectlite.TypeOf(target).Comparable()' gives; what the assertions find -/
theorem isTypeOf (v : Value) (w : World) : (Extern.ReflectliteType.typeOf #[.iface 330 v]).run Tryz.prog w = .ok (.iface 303 (.agg #[.pointer (some ⟨21, 330, none⟩)])) w := by kernel_rfl
/-- the model's entry for (rtype).Comparable, under a name -/
def cmpEntry : Array Value → Sem Value := Extern.ReflectliteType.method fun t => do Extern.Rtype.noPackHeld "Comparable" t; pure (.bool (← typeInfo t).comparable)
theorem isComparable (w : World) : (cmpEntry #[.agg #[.pointer (some ⟨21, 330, none⟩)]]).run Tryz.prog w = .ok (.bool true) w := by kernel_rfl
theorem isMethodComparable (v : Value) (w : World) : (Go.method 461 303 v "Comparable").run Tryz.prog w = .ok (256, v) w := by kernel_rfl
theorem isComp : (Tryz.prog.info? 330).map (·.comparable) = some true := by kernel_rfl
theorem isSize : (Tryz.prog.info? 349).map (·.size) = some 1 := by kernel_rfl
theorem noIsE (v : Value) (xT : TypeId) (w : World) : (Instr.typeAssert (.iface 330 v) xT 314 true).run Tryz.prog w = .ok (.tuple #[.nilIface, .bool false]) w := run_typeAssert_lacksB Tryz.underlying314 (by kernel_rfl) (by kernel_rfl) v xT w
theorem noUnwrapE (v : Value) (xT : TypeId) (w : World) : (Instr.typeAssert (.iface 330 v) xT 310 true).run Tryz.prog w = .ok (.tuple #[.nilIface, .bool false]) w := run_typeAssert_lacksB Tryz.underlying310 (by kernel_rfl) (by kernel_rfl) v xT w
theorem noUnwrapsE (v : Value) (xT : TypeId) (w : World) : (Instr.typeAssert (.iface 330 v) xT 311 true).run Tryz.prog w = .ok (.tuple #[.nilIface, .bool false]) w := run_typeAssert_lacksB Tryz.underlying311 (by kernel_rfl) (by kernel_rfl) v xT w

set_option maxRecDepth 100000 in
theorem is_same (a : Addr) (w : World) :
    Calls Tryz.prog 183 #[.iface 330 (.pointer (some a)), .iface 330 (.pointer (some a))] w fun e w' => e = .returned (.bool true) ∧ w = w' := by
  obtain ⟨i, hi, hcmp⟩ := Option.map_eq_some_iff.1 isComp
  obtain ⟨j, hj, hjs⟩ := Option.map_eq_some_iff.1 isSize
  have h8 := @run_callFunc_extern Tryz.prog 206 _ Extern.ReflectliteType.typeOf Tryz.func206 (by kernel_rfl) (by kernel_rfl) (by kernel_rfl) (by kernel_rfl)
  have h32 := @run_callFunc_extern Tryz.prog 256 _ cmpEntry Tryz.func256 (by kernel_rfl) (by kernel_rfl) (by kernel_rfl) (by kernel_rfl)
  have tT := isTypeOf
  have cT := isComparable
  have mR := isMethodComparable
  have heq := run_eql_iface_ptr_same (P := Tryz.prog) w a Tryz.underlying31 Tryz.underlying330 hi hcmp hj
  go_enter Tryz.func183, Tryz.ntmps183
  go_wp2
  refine wp_loop_rounds 1 ?_
  rw [rounds_succ]
  go_wp2
  go_ret
  exact ⟨rfl, rfl⟩

set_option maxRecDepth 100000 in
theorem is_other (a b : Addr) (w : World) (hne : a ≠ b) (ha : ∃ c t, w.heap[a.block]? = some (.cells c t (0, 0))) (hb : ∃ c t, w.heap[b.block]? = some (.cells c t (0, 0))) :
    Calls Tryz.prog 183 #[.iface 330 (.pointer (some a)), .iface 330 (.pointer (some b))] w fun e w' => e = .returned (.bool false) ∧ w = w' := by
  obtain ⟨ca, ta, ha⟩ := ha
  obtain ⟨cb, tb, hb⟩ := hb
  obtain ⟨i, hi, hcmp⟩ := Option.map_eq_some_iff.1 isComp
  obtain ⟨j, hj, hjs⟩ := Option.map_eq_some_iff.1 isSize
  have h8 := @run_callFunc_extern Tryz.prog 206 _ Extern.ReflectliteType.typeOf Tryz.func206 (by kernel_rfl) (by kernel_rfl) (by kernel_rfl) (by kernel_rfl)
  have h32 := @run_callFunc_extern Tryz.prog 256 _ cmpEntry Tryz.func256 (by kernel_rfl) (by kernel_rfl) (by kernel_rfl) (by kernel_rfl)
  have tT := isTypeOf
  have cT := isComparable
  have mR := isMethodComparable
  have nE := noIsE
  have uE := noUnwrapE
  have vE := noUnwrapsE
  have heq := run_eql_iface_ptr_other (P := Tryz.prog) w Tryz.underlying31 Tryz.underlying330 hi hcmp hj (by rw [hjs]; decide) hne ha hb
  go_enter Tryz.func183, Tryz.ntmps183
  go_wp2
  refine wp_loop_rounds 1 ?_
  rw [rounds_succ]
  go_wp2
  go_ret
  exact ⟨rfl, rfl⟩

/-! ### errors.As(err, &f), f a *api.Fault variable: of an error that is nil, or a plain one -/
theorem asValueOf (t : Addr) (w : World) : (ReflectliteValue.unpack (.iface 259 (.pointer (some t)))).run Tryz.prog w
    = .ok (.agg #[.pointer (some ⟨21, 259, none⟩), .pointer (some ⟨w.heap.size, 0, none⟩), .int .u64 150]) (w.alloc (.cells #[.pointer (some t)] 259)) := by kernel_rfl
theorem asType (a : Addr) (w : World) : (ReflectliteValue.methodAny (ReflectliteValue.valueError "reflectlite.Value.Type" 0) (fun t _ _ _ => ReflectliteType.toType t) #[.agg #[.pointer (some ⟨21, 259, none⟩), .pointer (some a), .int .u64 150]]).run Tryz.prog w
    = .ok (.iface 303 (.agg #[.pointer (some ⟨21, 259, none⟩)])) w := by kernel_rfl
theorem asMethodKind (h : Value) (w : World) : (Go.method 461 303 (.agg #[h]) "Kind").run Tryz.prog w = .ok (243, h) w := by kernel_rfl
theorem asKind2 (w : World) : ((ReflectliteType.abiMethod fun t => (fun a : Nat => Value.int IntKind.u8 (a : Int)) <$> Rtype.kind t) #[.pointer (some ⟨21, 259, none⟩)]).run Tryz.prog w = .ok (.int .u8 22) w := by kernel_rfl
theorem asKind1 (w : World) : ((ReflectliteType.abiMethod fun t => (fun a : Nat => Value.int IntKind.u8 (a : Int)) <$> Rtype.kind t) #[.pointer (some ⟨21, 251, none⟩)]).run Tryz.prog w = .ok (.int .u8 22) w := by kernel_rfl
theorem rlm (z : Sem Value) (f : TypeId → Addr → Nat → Nat → Sem Value) (v : Value) :
    ReflectliteValue.method z f #[v] = (do match ← ReflectliteValue.parts v with | none => z | some (t, a, fl) => f t a fl (fl % 32)) := rfl
theorem asParts2 (a : Addr) (w : World) : (ReflectliteValue.parts (.agg #[.pointer (some ⟨21, 259, none⟩), .pointer (some a), .int .u64 150])).run Tryz.prog w = .ok (some (259, a, 150)) w := by kernel_rfl
theorem asIsNil (a p : Addr) (W : World) (ha : W.cell? a = some (.pointer (some p))) :
    (ReflectliteValue.method (ReflectliteValue.valueError "reflectlite.Value.IsNil" 0) ReflectliteValue.isNil #[.agg #[.pointer (some ⟨21, 259, none⟩), .pointer (some a), .int .u64 150]]).run Tryz.prog W = .ok (.bool false) W := by
  rw [rlm]
  simp only [Sem.run_bind, asParts2, Result.andThen]
  simp [ReflectliteValue.isNil, loadVar, isAgg, underlying, Tryz.underlying259, ha, Result.andThen]
theorem asMethodElem (h : Value) (w : World) : (Go.method 461 303 (.agg #[h]) "Elem").run Tryz.prog w = .ok (257, .agg #[h]) w := by kernel_rfl
theorem asMethodImplements (h : Value) (w : World) : (Go.method 461 303 (.agg #[h]) "Implements").run Tryz.prog w = .ok (258, .agg #[h]) w := by kernel_rfl
theorem asMethodAssignableTo (h : Value) (w : World) : (Go.method 461 303 (.agg #[h]) "AssignableTo").run Tryz.prog w = .ok (255, .agg #[h]) w := by kernel_rfl
theorem asElem (w : World) : (ReflectliteType.method ReflectliteType.elem #[.agg #[.pointer (some ⟨21, 259, none⟩)]]).run Tryz.prog w = .ok (.iface 303 (.agg #[.pointer (some ⟨21, 251, none⟩)])) w := by kernel_rfl
theorem asImplements (w : World) : (ReflectliteType.relation "Implements" ReflectliteType.implements_ #[.agg #[.pointer (some ⟨21, 251, none⟩)], .iface 303 (.agg #[.pointer (some ⟨21, 31, none⟩)])]).run Tryz.prog w = .ok (.bool true) w := by kernel_rfl
theorem asAssignable (w : World) : (ReflectliteType.relation "AssignableTo" ReflectliteType.assignableTo #[.agg #[.pointer (some ⟨21, 330, none⟩)], .iface 303 (.agg #[.pointer (some ⟨21, 251, none⟩)])]).run Tryz.prog w = .ok (.bool false) w := by kernel_rfl
theorem noAsE (v : Value) (xT : TypeId) (w : World) : (Instr.typeAssert (.iface 330 v) xT 307 true).run Tryz.prog w = .ok (.tuple #[.nilIface, .bool false]) w := run_typeAssert_lacksB Tryz.underlying307 (by kernel_rfl) (by kernel_rfl) v xT w

set_option maxRecDepth 100000 in
set_option maxHeartbeats 4000000 in
theorem as_miss (e t : Addr) (w : World) (hg : w.cell? ⟨16, 0, none⟩ = some (.iface 303 (.agg #[.pointer (some ⟨21, 31, none⟩)]))) :
    Calls Tryz.prog 182 #[.iface 330 (.pointer (some e)), .iface 259 (.pointer (some t))] w fun ev w' => ev = .returned (.bool false) ∧ Below w.heap.size w w' := by
  have h6 := @run_callFunc_extern Tryz.prog 202 _ (fun args => ReflectliteValue.unpack (args.getD 0 (.tuple #[]))) Tryz.func202 (by kernel_rfl) (by kernel_rfl) (by kernel_rfl) (by kernel_rfl)
  have h7 := @run_callFunc_extern Tryz.prog 203 _ (ReflectliteValue.methodAny (ReflectliteValue.valueError "reflectlite.Value.Type" 0) (fun t _ _ _ => ReflectliteType.toType t)) Tryz.func203 (by kernel_rfl) (by kernel_rfl) (by kernel_rfl) (by kernel_rfl)
  have h8 := @run_callFunc_extern Tryz.prog 204 _ (ReflectliteValue.method (ReflectliteValue.valueError "reflectlite.Value.IsNil" 0) ReflectliteValue.isNil) Tryz.func204 (by kernel_rfl) (by kernel_rfl) (by kernel_rfl) (by kernel_rfl)
  have h27 := @run_callFunc_extern Tryz.prog 243 _ (ReflectliteType.abiMethod fun t => do pure (.int .u8 (← Rtype.kind t))) Tryz.func243 (by kernel_rfl) (by kernel_rfl) (by kernel_rfl) (by kernel_rfl)
  have h37 := @run_callFunc_extern Tryz.prog 257 _ (ReflectliteType.method ReflectliteType.elem) Tryz.func257 (by kernel_rfl) (by kernel_rfl) (by kernel_rfl) (by kernel_rfl)
  have h38 := @run_callFunc_extern Tryz.prog 258 _ (ReflectliteType.relation "Implements" ReflectliteType.implements_) Tryz.func258 (by kernel_rfl) (by kernel_rfl) (by kernel_rfl) (by kernel_rfl)
  have h10 := @run_callFunc_extern Tryz.prog 206 _ ReflectliteType.typeOf Tryz.func206 (by kernel_rfl) (by kernel_rfl) (by kernel_rfl) (by kernel_rfl)
  have h35 := @run_callFunc_extern Tryz.prog 255 _ (ReflectliteType.relation "AssignableTo" ReflectliteType.assignableTo) Tryz.func255 (by kernel_rfl) (by kernel_rfl) (by kernel_rfl) (by kernel_rfl)
  have tO := isTypeOf
  have mA := asMethodAssignableTo
  have a25 := asAssignable
  have f6 := asValueOf
  have f7 := asType
  have mK := asMethodKind
  have mE := asMethodElem
  have mI := asMethodImplements
  have k27 := asKind2
  have k25 := asKind1
  have e27 := asElem
  have i25 := asImplements
  have nA := noAsE
  have uE := noUnwrapE
  have vE := noUnwrapsE
  have n8 := asIsNil ⟨w.heap.size, 0, none⟩ t ((w.alloc (.cells #[.pointer (some t)] 259)).alloc (.cells #[.pointer (some ⟨21, 259, none⟩), .pointer (some ⟨w.heap.size, 0, none⟩), .int .u64 150] 285)) (by simp)
  have hlt : 16 < w.heap.size := World.block_lt_of_cell? w ⟨16, 0, none⟩ hg
  have hg2 : ((w.alloc (.cells #[.pointer (some t)] 259)).alloc (.cells #[.pointer (some ⟨21, 259, none⟩), .pointer (some ⟨w.heap.size, 0, none⟩), .int .u64 150] 285)).cell? ⟨16, 0, none⟩ = some (.iface 303 (.agg #[.pointer (some ⟨21, 31, none⟩)])) := by
    rw [World.cell?_alloc_lt _ _ ⟨16, 0, none⟩ (by simp; omega), World.cell?_alloc_lt _ _ ⟨16, 0, none⟩ hlt]; exact hg
  go_enter Tryz.func182, Tryz.ntmps182
  go_wp2
  refine wp_loop_rounds 1 ?_
  rw [rounds_succ]
  go_wp2
  go_ret
  refine ⟨rfl, ?_⟩
  repeat (first | exact Below.refl _ _ | (refine Below.alloc ?_ (by simp; try omega) _) | (refine Below.setCell ?_ (by simp; try omega) _))
end Go.Proofs.YtnpblpbcchminaaGreatDoor

/- cartularylaw01.Code, At, Is at the errors of package api: what they answer. Condition: the package-level variables read as listed. -/
namespace Go.Proofs.YtnpblpbcchminaaGreatDoor
open Go.ChangeShapes Go.WideShapes Go.ChangeAt Go.RowKit
set_option linter.unusedVariables false
set_option maxRecDepth 100000 in
set_option maxHeartbeats 1000000 in
theorem code_sent (a : Nat → Addr) (B k : Nat) (w : World) (hL : Laid B a w) (h1 : 1 ≤ k) (h2 : k ≤ 16) :
    Calls Tryz.prog 119 #[errV a k] w fun e w' => e = .returned (.int .i64 k) ∧ Below w.heap.size w w' := by
  unfold errV
  have hs := hL.size
  have hlo := hL.low
  have c1 := hL.e1
  have c2 := hL.e2
  have c3 := hL.e3
  have c4 := hL.e4
  have c5 := hL.e5
  have c6 := hL.e6
  have c7 := hL.e7
  have c8 := hL.e8
  have c9 := hL.e9
  have c10 := hL.e10
  have c11 := hL.e11
  have c12 := hL.e12
  have c13 := hL.e13
  have c14 := hL.e14
  have c15 := hL.e15
  have c16 := hL.e16
  go_enter Tryz.func119, Tryz.ntmps119
  go_wp2
  have hcell : ∀ j : Nat, j < 16 → (w.alloc (.cells #[.iface 330 (.pointer (some (a 1))), .iface 330 (.pointer (some (a 2))), .iface 330 (.pointer (some (a 3))), .iface 330 (.pointer (some (a 4))), .iface 330 (.pointer (some (a 5))), .iface 330 (.pointer (some (a 6))), .iface 330 (.pointer (some (a 7))), .iface 330 (.pointer (some (a 8))), .iface 330 (.pointer (some (a 9))), .iface 330 (.pointer (some (a 10))), .iface 330 (.pointer (some (a 11))), .iface 330 (.pointer (some (a 12))), .iface 330 (.pointer (some (a 13))), .iface 330 (.pointer (some (a 14))), .iface 330 (.pointer (some (a 15))), .iface 330 (.pointer (some (a 16)))] 260)).cell? ⟨w.heap.size, j, none⟩ = some (.iface 330 (.pointer (some (a (j + 1))))) := by
    intro j hj
    refine cell_new _ _ _ _ ?_
    rcases (by omega : j = 0 ∨ j = 1 ∨ j = 2 ∨ j = 3 ∨ j = 4 ∨ j = 5 ∨ j = 6 ∨ j = 7 ∨ j = 8 ∨ j = 9 ∨ j = 10 ∨ j = 11 ∨ j = 12 ∨ j = 13 ∨ j = 14 ∨ j = 15) with rfl | rfl | rfl | rfl | rfl | rfl | rfl | rfl | rfl | rfl | rfl | rfl | rfl | rfl | rfl | rfl <;> rfl
  have hBW : Below w.heap.size w (w.alloc (.cells #[.iface 330 (.pointer (some (a 1))), .iface 330 (.pointer (some (a 2))), .iface 330 (.pointer (some (a 3))), .iface 330 (.pointer (some (a 4))), .iface 330 (.pointer (some (a 5))), .iface 330 (.pointer (some (a 6))), .iface 330 (.pointer (some (a 7))), .iface 330 (.pointer (some (a 8))), .iface 330 (.pointer (some (a 9))), .iface 330 (.pointer (some (a 10))), .iface 330 (.pointer (some (a 11))), .iface 330 (.pointer (some (a 12))), .iface 330 (.pointer (some (a 13))), .iface 330 (.pointer (some (a 14))), .iface 330 (.pointer (some (a 15))), .iface 330 (.pointer (some (a 16)))] 260)) := (Below.refl _ _).alloc (Nat.le_refl _) _
  obtain ⟨W, hW⟩ : ∃ W, w.alloc (.cells #[.iface 330 (.pointer (some (a 1))), .iface 330 (.pointer (some (a 2))), .iface 330 (.pointer (some (a 3))), .iface 330 (.pointer (some (a 4))), .iface 330 (.pointer (some (a 5))), .iface 330 (.pointer (some (a 6))), .iface 330 (.pointer (some (a 7))), .iface 330 (.pointer (some (a 8))), .iface 330 (.pointer (some (a 9))), .iface 330 (.pointer (some (a 10))), .iface 330 (.pointer (some (a 11))), .iface 330 (.pointer (some (a 12))), .iface 330 (.pointer (some (a 13))), .iface 330 (.pointer (some (a 14))), .iface 330 (.pointer (some (a 15))), .iface 330 (.pointer (some (a 16)))] 260) = W := ⟨_, rfl⟩
  rw [hW] at hcell hBW ⊢
  have hLW := Lib.hid (hL.below (hBW.mono hL.size))
  have HC := Lib.hid hcell
  have hsW : w.heap.size < W.heap.size := by rw [← hW]; simp
  clear hW hcell hL c1 c2 c3 c4 c5 c6 c7 c8 c9 c10 c11 c12 c13 c14 c15 c16
  go_loop [4, 5] (fun n i => ∃ (j n' : Int), 0 ≤ j ∧ j ≤ 16 ∧ i = .int .i64 j ∧ n = .int .i64 n' ∧ -1 ≤ n' ∧ n' ≤ 16 ∧ (k ≤ j → n' = k) ∧ (j < k → n' = -1)) (fun _ i => (16 - intOf i).toNat)
  case atStart => exact ⟨0, -1, by omega, by omega, rfl, rfl, by omega, by omega, by omega, by omega⟩
  case round =>
    obtain ⟨j, n', h0, hj, rfl, rfl, hn1, hn2, hn3, hn4⟩ := hrel
    by_cases hlt : j < 16
    · obtain ⟨j, rfl⟩ := Int.eq_ofNat_of_zero_le h0
      have hc := HC.out j (by omega)
      by_cases hk : k = j + 1
      · have hn' : n' = -1 := hn4 (by omega)
        subst hn'
        clear hn3 hn4
        subst hk
        go_wp2_with (go_at_call 183; refine (is_same _ _).mono ?_; rintro e w' ⟨rfl, rfl⟩)
        go_round
        case rel => exact ⟨j + 1, j + 1, by omega, by omega, by go_num, by go_num, by omega, by omega, by omega, by omega⟩
        case measure => simp [intOf]; omega
      · have HN := Lib.hid (And.intro hn3 hn4)
        clear hn3 hn4
        go_wp2_with (go_at_call 183; refine (is_other _ _ _ (hLW.out.dist k (j + 1) h1 h2 (by omega) (by omega) hk) (hLW.out.row k h1 h2) (hLW.out.row (j + 1) (by omega) (by omega))).mono ?_; rintro e w' ⟨rfl, rfl⟩)
        go_round
        case rel => exact ⟨j + 1, n', by omega, by omega, by go_num, by go_num, by omega, by omega, by have := HN.out; omega, by have := HN.out; omega⟩
        case measure => simp [intOf]; omega
    · have hn' : n' = k := hn3 (by omega)
      subst hn'
      clear hn3 hn4
      go_wp2
      go_ret
      exact ⟨rfl, hBW⟩
set_option maxRecDepth 100000 in
theorem at_sent (a : Nat → Addr) (B k : Nat) (w : World) (hL : Laid B a w) (h1 : 1 ≤ k) (h2 : k ≤ 16) :
    Calls Tryz.prog 118 #[errV a k] w fun e w' => e = .returned (.tuple #[.int .i64 0, .bool false]) ∧ Below w.heap.size w w' := by
  unfold errV
  have hs := hL.size
  have hlo := hL.low
  have hg := cell_alloc hL.ety (.cells #[.pointer none] 251)
  clear hL
  go_enter Tryz.func118, Tryz.ntmps118
  go_wp2_with (go_at_call 182; refine (as_miss _ _ _ hg).mono ?_; rintro e w' ⟨rfl, hb⟩)
  go_ret2
  exact ⟨rfl, ((Below.refl _ _).alloc (Nat.le_refl _) _).trans (hb.mono (by simp))⟩
set_option maxRecDepth 100000 in
theorem is_sent (a : Nat → Addr) (B k : Nat) (w : World) (hL : Laid B a w) (h1 : 1 ≤ k) (h2 : k ≤ 16) :
    Calls Tryz.prog 31 #[errV a k, .int .i64 k] w fun e w' => e = .returned (.bool true) ∧ Below w.heap.size w w' := by
  have hLL := Lib.hid hL
  clear hL
  have hkk : ((k : Int) == k) = true := by simp
  go_enter Tryz.func31, Tryz.ntmps31
  go_wp2_with fail
  refine (at_sent a B k _ hLL.out h1 h2).mono ?_
  rintro e w1 ⟨rfl, hb1⟩
  have hL1 := Lib.hid (hLL.out.below (hb1.mono hLL.out.size))
  go_wp2_with fail
  refine (code_sent a B k _ hL1.out h1 h2).mono ?_
  rintro e w2 ⟨rfl, hb2⟩
  have hb : Below w.heap.size w w2 := hb1.trans (hb2.mono hb1.size)
  go_wp2
  go_ret
  exact ⟨rfl, hb⟩
end Go.Proofs.YtnpblpbcchminaaGreatDoor

