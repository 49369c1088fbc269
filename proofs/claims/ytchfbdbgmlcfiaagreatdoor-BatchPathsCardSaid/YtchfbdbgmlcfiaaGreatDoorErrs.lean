/- The errors of package api: what a walk may use of them, and the contracts of errors.Is and errors.As at them. Condition: the package-level variables read as listed. -/
import Derived.Test.YtchfbdbgmlcfiaaGreatDoorRows
import Derived.Test.YtchfbdbgmlcfiaaGreatDoorAid
import Derived.LaidEql
import Derived.Stop.Asserts
import Derived.RowKitTokens
import Derived.Below
namespace Go.Proofs.YtchfbdbgmlcfiaaGreatDoor
open Go.ChangeShapes Go.WideShapes Go.ChangeAt Go.RowKit Go.Extern.Stop Go.Stop Go.Extern
set_option linter.unusedVariables false

/-- the error of number k -/
def errV (a : Nat → Addr) (k : Nat) : Value := .iface 320 (.pointer (some (a k)))

/-- In world w the errors' variables hold what they hold at the start: the error k is a pointer to a k; all that lies below block B. -/
structure Laid (B : Nat) (a : Nat → Addr) (w : World) : Prop where
  size : B ≤ w.heap.size
  low : 21 ≤ B
  e1 : w.cell? ⟨3, 0, none⟩ = some (.iface 320 (.pointer (some (a 1))))
  e2 : w.cell? ⟨1, 0, none⟩ = some (.iface 320 (.pointer (some (a 2))))
  e3 : w.cell? ⟨5, 0, none⟩ = some (.iface 320 (.pointer (some (a 3))))
  e4 : w.cell? ⟨4, 0, none⟩ = some (.iface 320 (.pointer (some (a 4))))
  e5 : w.cell? ⟨0, 0, none⟩ = some (.iface 320 (.pointer (some (a 5))))
  e6 : w.cell? ⟨6, 0, none⟩ = some (.iface 320 (.pointer (some (a 6))))
  e7 : w.cell? ⟨7, 0, none⟩ = some (.iface 320 (.pointer (some (a 7))))
  e8 : w.cell? ⟨8, 0, none⟩ = some (.iface 320 (.pointer (some (a 8))))
  e9 : w.cell? ⟨9, 0, none⟩ = some (.iface 320 (.pointer (some (a 9))))
  e10 : w.cell? ⟨2, 0, none⟩ = some (.iface 320 (.pointer (some (a 10))))
  e11 : w.cell? ⟨10, 0, none⟩ = some (.iface 320 (.pointer (some (a 11))))
  e12 : w.cell? ⟨11, 0, none⟩ = some (.iface 320 (.pointer (some (a 12))))
  e13 : w.cell? ⟨12, 0, none⟩ = some (.iface 320 (.pointer (some (a 13))))
  e14 : w.cell? ⟨13, 0, none⟩ = some (.iface 320 (.pointer (some (a 14))))
  e15 : w.cell? ⟨14, 0, none⟩ = some (.iface 320 (.pointer (some (a 15))))
  e16 : w.cell? ⟨15, 0, none⟩ = some (.iface 320 (.pointer (some (a 16))))
  ety : w.cell? ⟨16, 0, none⟩ = some (.iface 293 (.agg #[.pointer (some ⟨21, 33, none⟩)]))
  dist : ∀ i j, 1 ≤ i → i ≤ 16 → 1 ≤ j → j ≤ 16 → i ≠ j → a i ≠ a j
  row : ∀ i, 1 ≤ i → i ≤ 16 → ∃ c t, w.heap[(a i).block]? = some (.cells c t (0, 0))
  lt : ∀ i, 1 ≤ i → i ≤ 16 → (a i).block < B

theorem Laid.below {B : Nat} {a : Nat → Addr} {w w' : World} (h : Laid B a w) (hb : Below B w w') : Laid B a w' := by
  have hc : ∀ g o, g < 21 → w'.cell? ⟨g, o, none⟩ = w.cell? ⟨g, o, none⟩ := fun g o hg => hb.cell (p := ⟨g, o, none⟩) (Nat.lt_of_lt_of_le hg h.low)
  exact { size := Nat.le_trans h.size hb.size, low := h.low
          e1 := (hc _ _ (by decide)).trans h.e1
          e2 := (hc _ _ (by decide)).trans h.e2
          e3 := (hc _ _ (by decide)).trans h.e3
          e4 := (hc _ _ (by decide)).trans h.e4
          e5 := (hc _ _ (by decide)).trans h.e5
          e6 := (hc _ _ (by decide)).trans h.e6
          e7 := (hc _ _ (by decide)).trans h.e7
          e8 := (hc _ _ (by decide)).trans h.e8
          e9 := (hc _ _ (by decide)).trans h.e9
          e10 := (hc _ _ (by decide)).trans h.e10
          e11 := (hc _ _ (by decide)).trans h.e11
          e12 := (hc _ _ (by decide)).trans h.e12
          e13 := (hc _ _ (by decide)).trans h.e13
          e14 := (hc _ _ (by decide)).trans h.e14
          e15 := (hc _ _ (by decide)).trans h.e15
          e16 := (hc _ _ (by decide)).trans h.e16
          ety := (hc _ _ (by decide)).trans h.ety
          dist := h.dist, lt := h.lt
          row := fun i h1 h2 => by obtain ⟨c, t, e⟩ := h.row i h1 h2; exact ⟨c, t, (hb.block _ (h.lt i h1 h2)).trans e⟩ }
theorem Laid.grow {B B' : Nat} {a : Nat → Addr} {w w' : World} (h : Laid B a w) (hb : Below B' w w') (hB : w.heap.size ≤ B') : Laid B a w' := h.below (hb.mono (Nat.le_trans h.size hB))

/-! ### closed facts: what 'reflectlite.TypeOf(target).Comparable()' gives; what the assertions find -/
theorem isTypeOf (v : Value) (w : World) : (Extern.ReflectliteType.typeOf #[.iface 320 v]).run Tryz.prog w = .ok (.iface 293 (.agg #[.pointer (some ⟨21, 320, none⟩)])) w := by kernel_rfl
/-- the model's entry for (rtype).Comparable, under a name -/
def cmpEntry : Array Value → Sem Value := Extern.ReflectliteType.method fun t => do Extern.Rtype.noPackHeld "Comparable" t; pure (.bool (← typeInfo t).comparable)
theorem isComparable (w : World) : (cmpEntry #[.agg #[.pointer (some ⟨21, 320, none⟩)]]).run Tryz.prog w = .ok (.bool true) w := by kernel_rfl
theorem isMethodComparable (v : Value) (w : World) : (Go.method 453 293 v "Comparable").run Tryz.prog w = .ok (226, v) w := by kernel_rfl
theorem isComp : (Tryz.prog.info? 320).map (·.comparable) = some true := by kernel_rfl
theorem isSize : (Tryz.prog.info? 341).map (·.size) = some 1 := by kernel_rfl
theorem noIsE (v : Value) (xT : TypeId) (w : World) : (Instr.typeAssert (.iface 320 v) xT 305 true).run Tryz.prog w = .ok (.tuple #[.nilIface, .bool false]) w := run_typeAssert_lacksB Tryz.underlying305 (by kernel_rfl) (by kernel_rfl) v xT w
theorem noUnwrapE (v : Value) (xT : TypeId) (w : World) : (Instr.typeAssert (.iface 320 v) xT 300 true).run Tryz.prog w = .ok (.tuple #[.nilIface, .bool false]) w := run_typeAssert_lacksB Tryz.underlying300 (by kernel_rfl) (by kernel_rfl) v xT w
theorem noUnwrapsE (v : Value) (xT : TypeId) (w : World) : (Instr.typeAssert (.iface 320 v) xT 302 true).run Tryz.prog w = .ok (.tuple #[.nilIface, .bool false]) w := run_typeAssert_lacksB Tryz.underlying302 (by kernel_rfl) (by kernel_rfl) v xT w

set_option maxRecDepth 100000 in
theorem is_same (a : Addr) (w : World) :
    Calls Tryz.prog 162 #[.iface 320 (.pointer (some a)), .iface 320 (.pointer (some a))] w fun e w' => e = .returned (.bool true) ∧ w = w' := by
  obtain ⟨i, hi, hcmp⟩ := Option.map_eq_some_iff.1 isComp
  obtain ⟨j, hj, hjs⟩ := Option.map_eq_some_iff.1 isSize
  have h8 := @run_callFunc_extern Tryz.prog 179 _ Extern.ReflectliteType.typeOf Tryz.func179 (by kernel_rfl) (by kernel_rfl) (by kernel_rfl) (by kernel_rfl)
  have h32 := @run_callFunc_extern Tryz.prog 226 _ cmpEntry Tryz.func226 (by kernel_rfl) (by kernel_rfl) (by kernel_rfl) (by kernel_rfl)
  have tT := isTypeOf
  have cT := isComparable
  have mR := isMethodComparable
  have heq := run_eql_iface_ptr_same (P := Tryz.prog) w a Tryz.underlying33 Tryz.underlying320 hi hcmp hj
  go_enter Tryz.func162, Tryz.ntmps162
  go_wp2
  refine wp_loop_rounds 1 ?_
  rw [rounds_succ]
  go_wp2
  go_ret
  exact ⟨rfl, rfl⟩

set_option maxRecDepth 100000 in
theorem is_other (a b : Addr) (w : World) (hne : a ≠ b) (ha : ∃ c t, w.heap[a.block]? = some (.cells c t (0, 0))) (hb : ∃ c t, w.heap[b.block]? = some (.cells c t (0, 0))) :
    Calls Tryz.prog 162 #[.iface 320 (.pointer (some a)), .iface 320 (.pointer (some b))] w fun e w' => e = .returned (.bool false) ∧ w = w' := by
  obtain ⟨ca, ta, ha⟩ := ha
  obtain ⟨cb, tb, hb⟩ := hb
  obtain ⟨i, hi, hcmp⟩ := Option.map_eq_some_iff.1 isComp
  obtain ⟨j, hj, hjs⟩ := Option.map_eq_some_iff.1 isSize
  have h8 := @run_callFunc_extern Tryz.prog 179 _ Extern.ReflectliteType.typeOf Tryz.func179 (by kernel_rfl) (by kernel_rfl) (by kernel_rfl) (by kernel_rfl)
  have h32 := @run_callFunc_extern Tryz.prog 226 _ cmpEntry Tryz.func226 (by kernel_rfl) (by kernel_rfl) (by kernel_rfl) (by kernel_rfl)
  have tT := isTypeOf
  have cT := isComparable
  have mR := isMethodComparable
  have nE := noIsE
  have uE := noUnwrapE
  have vE := noUnwrapsE
  have heq := run_eql_iface_ptr_other (P := Tryz.prog) w Tryz.underlying33 Tryz.underlying320 hi hcmp hj (by rw [hjs]; decide) hne ha hb
  go_enter Tryz.func162, Tryz.ntmps162
  go_wp2
  refine wp_loop_rounds 1 ?_
  rw [rounds_succ]
  go_wp2
  go_ret
  exact ⟨rfl, rfl⟩

/-! ### errors.As(err, &f), f a *api.Fault variable: of an error that is nil, or a plain one -/
theorem as_nil (t : Value) (w : World) :
    Calls Tryz.prog 161 #[.nilIface, t] w fun e w' => e = .returned (.bool false) ∧ w = w' := by
  go_enter Tryz.func161, Tryz.ntmps161
  go_wp2
  go_ret
  exact ⟨rfl, rfl⟩
theorem asValueOf (t : Addr) (w : World) : (ReflectliteValue.unpack (.iface 253 (.pointer (some t)))).run Tryz.prog w
    = .ok (.agg #[.pointer (some ⟨21, 253, none⟩), .pointer (some ⟨w.heap.size, 0, none⟩), .int .u64 150]) (w.alloc (.cells #[.pointer (some t)] 253)) := by kernel_rfl
theorem asType (a : Addr) (w : World) : (ReflectliteValue.methodAny (ReflectliteValue.valueError "reflectlite.Value.Type" 0) (fun t _ _ _ => ReflectliteType.toType t) #[.agg #[.pointer (some ⟨21, 253, none⟩), .pointer (some a), .int .u64 150]]).run Tryz.prog w
    = .ok (.iface 293 (.agg #[.pointer (some ⟨21, 253, none⟩)])) w := by kernel_rfl
theorem asMethodKind (h : Value) (w : World) : (Go.method 453 293 (.agg #[h]) "Kind").run Tryz.prog w = .ok (215, h) w := by kernel_rfl
theorem asKind2 (w : World) : ((ReflectliteType.abiMethod fun t => (fun a : Nat => Value.int IntKind.u8 (a : Int)) <$> Rtype.kind t) #[.pointer (some ⟨21, 253, none⟩)]).run Tryz.prog w = .ok (.int .u8 22) w := by kernel_rfl
theorem asKind1 (w : World) : ((ReflectliteType.abiMethod fun t => (fun a : Nat => Value.int IntKind.u8 (a : Int)) <$> Rtype.kind t) #[.pointer (some ⟨21, 251, none⟩)]).run Tryz.prog w = .ok (.int .u8 22) w := by kernel_rfl
theorem rlm (z : Sem Value) (f : TypeId → Addr → Nat → Nat → Sem Value) (v : Value) :
    ReflectliteValue.method z f #[v] = (do match ← ReflectliteValue.parts v with | none => z | some (t, a, fl) => f t a fl (fl % 32)) := rfl
theorem asParts2 (a : Addr) (w : World) : (ReflectliteValue.parts (.agg #[.pointer (some ⟨21, 253, none⟩), .pointer (some a), .int .u64 150])).run Tryz.prog w = .ok (some (253, a, 150)) w := by kernel_rfl
theorem asIsNil (a p : Addr) (W : World) (ha : W.cell? a = some (.pointer (some p))) :
    (ReflectliteValue.method (ReflectliteValue.valueError "reflectlite.Value.IsNil" 0) ReflectliteValue.isNil #[.agg #[.pointer (some ⟨21, 253, none⟩), .pointer (some a), .int .u64 150]]).run Tryz.prog W = .ok (.bool false) W := by
  rw [rlm]
  simp only [Sem.run_bind, asParts2, Result.andThen]
  simp [ReflectliteValue.isNil, loadVar, isAgg, underlying, Tryz.underlying253, ha, Result.andThen]
theorem asMethodElem (h : Value) (w : World) : (Go.method 453 293 (.agg #[h]) "Elem").run Tryz.prog w = .ok (227, .agg #[h]) w := by kernel_rfl
theorem asMethodImplements (h : Value) (w : World) : (Go.method 453 293 (.agg #[h]) "Implements").run Tryz.prog w = .ok (228, .agg #[h]) w := by kernel_rfl
theorem asMethodAssignableTo (h : Value) (w : World) : (Go.method 453 293 (.agg #[h]) "AssignableTo").run Tryz.prog w = .ok (225, .agg #[h]) w := by kernel_rfl
theorem asElem (w : World) : (ReflectliteType.method ReflectliteType.elem #[.agg #[.pointer (some ⟨21, 253, none⟩)]]).run Tryz.prog w = .ok (.iface 293 (.agg #[.pointer (some ⟨21, 251, none⟩)])) w := by kernel_rfl
theorem asImplements (w : World) : (ReflectliteType.relation "Implements" ReflectliteType.implements_ #[.agg #[.pointer (some ⟨21, 251, none⟩)], .iface 293 (.agg #[.pointer (some ⟨21, 33, none⟩)])]).run Tryz.prog w = .ok (.bool true) w := by kernel_rfl
theorem asAssignable (w : World) : (ReflectliteType.relation "AssignableTo" ReflectliteType.assignableTo #[.agg #[.pointer (some ⟨21, 320, none⟩)], .iface 293 (.agg #[.pointer (some ⟨21, 251, none⟩)])]).run Tryz.prog w = .ok (.bool false) w := by kernel_rfl
theorem noAsE (v : Value) (xT : TypeId) (w : World) : (Instr.typeAssert (.iface 320 v) xT 297 true).run Tryz.prog w = .ok (.tuple #[.nilIface, .bool false]) w := run_typeAssert_lacksB Tryz.underlying297 (by kernel_rfl) (by kernel_rfl) v xT w

set_option maxRecDepth 100000 in
set_option maxHeartbeats 4000000 in
theorem as_miss (e t : Addr) (w : World) (hg : w.cell? ⟨16, 0, none⟩ = some (.iface 293 (.agg #[.pointer (some ⟨21, 33, none⟩)]))) :
    Calls Tryz.prog 161 #[.iface 320 (.pointer (some e)), .iface 253 (.pointer (some t))] w fun ev w' => ev = .returned (.bool false) ∧ Below w.heap.size w w' := by
  have h6 := @run_callFunc_extern Tryz.prog 175 _ (fun args => ReflectliteValue.unpack (args.getD 0 (.tuple #[]))) Tryz.func175 (by kernel_rfl) (by kernel_rfl) (by kernel_rfl) (by kernel_rfl)
  have h7 := @run_callFunc_extern Tryz.prog 176 _ (ReflectliteValue.methodAny (ReflectliteValue.valueError "reflectlite.Value.Type" 0) (fun t _ _ _ => ReflectliteType.toType t)) Tryz.func176 (by kernel_rfl) (by kernel_rfl) (by kernel_rfl) (by kernel_rfl)
  have h8 := @run_callFunc_extern Tryz.prog 177 _ (ReflectliteValue.method (ReflectliteValue.valueError "reflectlite.Value.IsNil" 0) ReflectliteValue.isNil) Tryz.func177 (by kernel_rfl) (by kernel_rfl) (by kernel_rfl) (by kernel_rfl)
  have h27 := @run_callFunc_extern Tryz.prog 215 _ (ReflectliteType.abiMethod fun t => do pure (.int .u8 (← Rtype.kind t))) Tryz.func215 (by kernel_rfl) (by kernel_rfl) (by kernel_rfl) (by kernel_rfl)
  have h37 := @run_callFunc_extern Tryz.prog 227 _ (ReflectliteType.method ReflectliteType.elem) Tryz.func227 (by kernel_rfl) (by kernel_rfl) (by kernel_rfl) (by kernel_rfl)
  have h38 := @run_callFunc_extern Tryz.prog 228 _ (ReflectliteType.relation "Implements" ReflectliteType.implements_) Tryz.func228 (by kernel_rfl) (by kernel_rfl) (by kernel_rfl) (by kernel_rfl)
  have h10 := @run_callFunc_extern Tryz.prog 179 _ ReflectliteType.typeOf Tryz.func179 (by kernel_rfl) (by kernel_rfl) (by kernel_rfl) (by kernel_rfl)
  have h35 := @run_callFunc_extern Tryz.prog 225 _ (ReflectliteType.relation "AssignableTo" ReflectliteType.assignableTo) Tryz.func225 (by kernel_rfl) (by kernel_rfl) (by kernel_rfl) (by kernel_rfl)
  have tO := isTypeOf
  have mA := asMethodAssignableTo
  have a25 := asAssignable
  have f6 := asValueOf
  have f7 := asType
  have mK := asMethodKind
  have mE := asMethodElem
  have mI := asMethodImplements
  have k27 := asKind2
  have k25 := asKind1
  have e27 := asElem
  have i25 := asImplements
  have nA := noAsE
  have uE := noUnwrapE
  have vE := noUnwrapsE
  have n8 := asIsNil ⟨w.heap.size, 0, none⟩ t ((w.alloc (.cells #[.pointer (some t)] 253)).alloc (.cells #[.pointer (some ⟨21, 253, none⟩), .pointer (some ⟨w.heap.size, 0, none⟩), .int .u64 150] 275)) (by simp)
  have hlt : 16 < w.heap.size := World.block_lt_of_cell? w ⟨16, 0, none⟩ hg
  have hg2 : ((w.alloc (.cells #[.pointer (some t)] 253)).alloc (.cells #[.pointer (some ⟨21, 253, none⟩), .pointer (some ⟨w.heap.size, 0, none⟩), .int .u64 150] 275)).cell? ⟨16, 0, none⟩ = some (.iface 293 (.agg #[.pointer (some ⟨21, 33, none⟩)])) := by
    rw [World.cell?_alloc_lt _ _ ⟨16, 0, none⟩ (by simp; omega), World.cell?_alloc_lt _ _ ⟨16, 0, none⟩ hlt]; exact hg
  go_enter Tryz.func161, Tryz.ntmps161
  go_wp2
  refine wp_loop_rounds 1 ?_
  rw [rounds_succ]
  go_wp2
  go_ret
  refine ⟨rfl, ?_⟩
  repeat (first | exact Below.refl _ _ | (refine Below.alloc ?_ (by simp; try omega) _) | (refine Below.setCell ?_ (by simp; try omega) _))
end Go.Proofs.YtchfbdbgmlcfiaaGreatDoor
