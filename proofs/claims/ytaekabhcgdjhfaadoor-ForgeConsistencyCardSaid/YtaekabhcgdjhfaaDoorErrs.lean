/- The errors of package api: what a walk may use of them, and the contracts of errors.Is and errors.As at them. Condition: the package-level variables read as listed. -/
import Derived.Test.YtaekabhcgdjhfaaDoorRows
import Derived.Test.YtaekabhcgdjhfaaDoorAid
import Derived.LaidEql
import Derived.Stop.Asserts
import Derived.RowKitTokens
import Derived.Below
namespace Go.Proofs.YtaekabhcgdjhfaaDoor
open Go.ChangeShapes Go.WideShapes Go.ChangeAt Go.RowKit Go.Extern.Stop Go.Stop Go.Extern
set_option linter.unusedVariables false

/-- the error of number k -/
def errV (a : Nat → Addr) (k : Nat) : Value := .iface 169 (.pointer (some (a k)))

/-- In world w the errors' variables hold what they hold at the start: the error k is a pointer to a k; all that lies below block B. -/
structure Laid (B : Nat) (a : Nat → Addr) (w : World) : Prop where
  size : B ≤ w.heap.size
  low : 18 ≤ B
  e1 : w.cell? ⟨1, 0, none⟩ = some (.iface 169 (.pointer (some (a 1))))
  e2 : w.cell? ⟨4, 0, none⟩ = some (.iface 169 (.pointer (some (a 2))))
  e3 : w.cell? ⟨5, 0, none⟩ = some (.iface 169 (.pointer (some (a 3))))
  e4 : w.cell? ⟨3, 0, none⟩ = some (.iface 169 (.pointer (some (a 4))))
  e5 : w.cell? ⟨2, 0, none⟩ = some (.iface 169 (.pointer (some (a 5))))
  e6 : w.cell? ⟨6, 0, none⟩ = some (.iface 169 (.pointer (some (a 6))))
  e7 : w.cell? ⟨7, 0, none⟩ = some (.iface 169 (.pointer (some (a 7))))
  e8 : w.cell? ⟨8, 0, none⟩ = some (.iface 169 (.pointer (some (a 8))))
  e9 : w.cell? ⟨9, 0, none⟩ = some (.iface 169 (.pointer (some (a 9))))
  e10 : w.cell? ⟨0, 0, none⟩ = some (.iface 169 (.pointer (some (a 10))))
  e11 : w.cell? ⟨10, 0, none⟩ = some (.iface 169 (.pointer (some (a 11))))
  e12 : w.cell? ⟨11, 0, none⟩ = some (.iface 169 (.pointer (some (a 12))))
  e13 : w.cell? ⟨12, 0, none⟩ = some (.iface 169 (.pointer (some (a 13))))
  e14 : w.cell? ⟨13, 0, none⟩ = some (.iface 169 (.pointer (some (a 14))))
  e15 : w.cell? ⟨14, 0, none⟩ = some (.iface 169 (.pointer (some (a 15))))
  e16 : w.cell? ⟨15, 0, none⟩ = some (.iface 169 (.pointer (some (a 16))))
  ety : w.cell? ⟨17, 0, none⟩ = some (.iface 154 (.agg #[.pointer (some ⟨18, 36, none⟩)]))
  dist : ∀ i j, 1 ≤ i → i ≤ 16 → 1 ≤ j → j ≤ 16 → i ≠ j → a i ≠ a j
  row : ∀ i, 1 ≤ i → i ≤ 16 → ∃ c t, w.heap[(a i).block]? = some (.cells c t (0, 0))
  lt : ∀ i, 1 ≤ i → i ≤ 16 → (a i).block < B

theorem Laid.below {B : Nat} {a : Nat → Addr} {w w' : World} (h : Laid B a w) (hb : Below B w w') : Laid B a w' := by
  have hc : ∀ g o, g < 18 → w'.cell? ⟨g, o, none⟩ = w.cell? ⟨g, o, none⟩ := fun g o hg => hb.cell (p := ⟨g, o, none⟩) (Nat.lt_of_lt_of_le hg h.low)
  exact { size := Nat.le_trans h.size hb.size, low := h.low
          e1 := (hc _ _ (by decide)).trans h.e1
          e2 := (hc _ _ (by decide)).trans h.e2
          e3 := (hc _ _ (by decide)).trans h.e3
          e4 := (hc _ _ (by decide)).trans h.e4
          e5 := (hc _ _ (by decide)).trans h.e5
          e6 := (hc _ _ (by decide)).trans h.e6
          e7 := (hc _ _ (by decide)).trans h.e7
          e8 := (hc _ _ (by decide)).trans h.e8
          e9 := (hc _ _ (by decide)).trans h.e9
          e10 := (hc _ _ (by decide)).trans h.e10
          e11 := (hc _ _ (by decide)).trans h.e11
          e12 := (hc _ _ (by decide)).trans h.e12
          e13 := (hc _ _ (by decide)).trans h.e13
          e14 := (hc _ _ (by decide)).trans h.e14
          e15 := (hc _ _ (by decide)).trans h.e15
          e16 := (hc _ _ (by decide)).trans h.e16
          ety := (hc _ _ (by decide)).trans h.ety
          dist := h.dist, lt := h.lt
          row := fun i h1 h2 => by obtain ⟨c, t, e⟩ := h.row i h1 h2; exact ⟨c, t, (hb.block _ (h.lt i h1 h2)).trans e⟩ }
theorem Laid.grow {B B' : Nat} {a : Nat → Addr} {w w' : World} (h : Laid B a w) (hb : Below B' w w') (hB : w.heap.size ≤ B') : Laid B a w' := h.below (hb.mono (Nat.le_trans h.size hB))

/-! ### closed facts: what 'reflectlite.TypeOf(target).Comparable()' gives; what the assertions find -/
theorem isTypeOf (v : Value) (w : World) : (Extern.ReflectliteType.typeOf #[.iface 169 v]).run Tryd.prog w = .ok (.iface 154 (.agg #[.pointer (some ⟨18, 169, none⟩)])) w := by kernel_rfl
/-- the model's entry for (rtype).Comparable, under a name -/
def cmpEntry : Array Value → Sem Value := Extern.ReflectliteType.method fun t => do Extern.Rtype.noPackHeld "Comparable" t; pure (.bool (← typeInfo t).comparable)
theorem isComparable (w : World) : (cmpEntry #[.agg #[.pointer (some ⟨18, 169, none⟩)]]).run Tryd.prog w = .ok (.bool true) w := by kernel_rfl
theorem isMethodComparable (v : Value) (w : World) : (Go.method 302 154 v "Comparable").run Tryd.prog w = .ok (104, v) w := by kernel_rfl
theorem isComp : (Tryd.prog.info? 169).map (·.comparable) = some true := by kernel_rfl
theorem isSize : (Tryd.prog.info? 190).map (·.size) = some 1 := by kernel_rfl
theorem noIsE (v : Value) (xT : TypeId) (w : World) : (Instr.typeAssert (.iface 169 v) xT 156 true).run Tryd.prog w = .ok (.tuple #[.nilIface, .bool false]) w := run_typeAssert_lacksB Tryd.underlying156 (by kernel_rfl) (by kernel_rfl) v xT w
theorem noUnwrapE (v : Value) (xT : TypeId) (w : World) : (Instr.typeAssert (.iface 169 v) xT 159 true).run Tryd.prog w = .ok (.tuple #[.nilIface, .bool false]) w := run_typeAssert_lacksB Tryd.underlying159 (by kernel_rfl) (by kernel_rfl) v xT w
theorem noUnwrapsE (v : Value) (xT : TypeId) (w : World) : (Instr.typeAssert (.iface 169 v) xT 161 true).run Tryd.prog w = .ok (.tuple #[.nilIface, .bool false]) w := run_typeAssert_lacksB Tryd.underlying161 (by kernel_rfl) (by kernel_rfl) v xT w

set_option maxRecDepth 100000 in
theorem is_same (a : Addr) (w : World) :
    Calls Tryd.prog 63 #[.iface 169 (.pointer (some a)), .iface 169 (.pointer (some a))] w fun e w' => e = .returned (.bool true) ∧ w = w' := by
  obtain ⟨i, hi, hcmp⟩ := Option.map_eq_some_iff.1 isComp
  obtain ⟨j, hj, hjs⟩ := Option.map_eq_some_iff.1 isSize
  have h8 := @run_callFunc_extern Tryd.prog 69 _ Extern.ReflectliteType.typeOf Tryd.func69 (by kernel_rfl) (by kernel_rfl) (by kernel_rfl) (by kernel_rfl)
  have h32 := @run_callFunc_extern Tryd.prog 104 _ cmpEntry Tryd.func104 (by kernel_rfl) (by kernel_rfl) (by kernel_rfl) (by kernel_rfl)
  have tT := isTypeOf
  have cT := isComparable
  have mR := isMethodComparable
  have heq := run_eql_iface_ptr_same (P := Tryd.prog) w a Tryd.underlying36 Tryd.underlying169 hi hcmp hj
  go_enter Tryd.func63, Tryd.ntmps63
  go_wp2
  refine wp_loop_rounds 1 ?_
  rw [rounds_succ]
  go_wp2
  go_ret
  exact ⟨rfl, rfl⟩

set_option maxRecDepth 100000 in
theorem is_other (a b : Addr) (w : World) (hne : a ≠ b) (ha : ∃ c t, w.heap[a.block]? = some (.cells c t (0, 0))) (hb : ∃ c t, w.heap[b.block]? = some (.cells c t (0, 0))) :
    Calls Tryd.prog 63 #[.iface 169 (.pointer (some a)), .iface 169 (.pointer (some b))] w fun e w' => e = .returned (.bool false) ∧ w = w' := by
  obtain ⟨ca, ta, ha⟩ := ha
  obtain ⟨cb, tb, hb⟩ := hb
  obtain ⟨i, hi, hcmp⟩ := Option.map_eq_some_iff.1 isComp
  obtain ⟨j, hj, hjs⟩ := Option.map_eq_some_iff.1 isSize
  have h8 := @run_callFunc_extern Tryd.prog 69 _ Extern.ReflectliteType.typeOf Tryd.func69 (by kernel_rfl) (by kernel_rfl) (by kernel_rfl) (by kernel_rfl)
  have h32 := @run_callFunc_extern Tryd.prog 104 _ cmpEntry Tryd.func104 (by kernel_rfl) (by kernel_rfl) (by kernel_rfl) (by kernel_rfl)
  have tT := isTypeOf
  have cT := isComparable
  have mR := isMethodComparable
  have nE := noIsE
  have uE := noUnwrapE
  have vE := noUnwrapsE
  have heq := run_eql_iface_ptr_other (P := Tryd.prog) w Tryd.underlying36 Tryd.underlying169 hi hcmp hj (by rw [hjs]; decide) hne ha hb
  go_enter Tryd.func63, Tryd.ntmps63
  go_wp2
  refine wp_loop_rounds 1 ?_
  rw [rounds_succ]
  go_wp2
  go_ret
  exact ⟨rfl, rfl⟩

/-! ### errors.As(err, &f), f a *api.Fault variable: of an error that is nil, or a plain one -/
theorem as_nil (t : Value) (w : World) :
    Calls Tryd.prog 67 #[.nilIface, t] w fun e w' => e = .returned (.bool false) ∧ w = w' := by
  go_enter Tryd.func67, Tryd.ntmps67
  go_wp2
  go_ret
  exact ⟨rfl, rfl⟩
theorem asValueOf (t : Addr) (w : World) : (ReflectliteValue.unpack (.iface 130 (.pointer (some t)))).run Tryd.prog w
    = .ok (.agg #[.pointer (some ⟨18, 130, none⟩), .pointer (some ⟨w.heap.size, 0, none⟩), .int .u64 150]) (w.alloc (.cells #[.pointer (some t)] 130)) := by kernel_rfl
theorem asType (a : Addr) (w : World) : (ReflectliteValue.methodAny (ReflectliteValue.valueError "reflectlite.Value.Type" 0) (fun t _ _ _ => ReflectliteType.toType t) #[.agg #[.pointer (some ⟨18, 130, none⟩), .pointer (some a), .int .u64 150]]).run Tryd.prog w
    = .ok (.iface 154 (.agg #[.pointer (some ⟨18, 130, none⟩)])) w := by kernel_rfl
theorem asMethodKind (h : Value) (w : World) : (Go.method 302 154 (.agg #[h]) "Kind").run Tryd.prog w = .ok (92, h) w := by kernel_rfl
theorem asKind2 (w : World) : ((ReflectliteType.abiMethod fun t => (fun a : Nat => Value.int IntKind.u8 (a : Int)) <$> Rtype.kind t) #[.pointer (some ⟨18, 130, none⟩)]).run Tryd.prog w = .ok (.int .u8 22) w := by kernel_rfl
theorem asKind1 (w : World) : ((ReflectliteType.abiMethod fun t => (fun a : Nat => Value.int IntKind.u8 (a : Int)) <$> Rtype.kind t) #[.pointer (some ⟨18, 128, none⟩)]).run Tryd.prog w = .ok (.int .u8 22) w := by kernel_rfl
theorem rlm (z : Sem Value) (f : TypeId → Addr → Nat → Nat → Sem Value) (v : Value) :
    ReflectliteValue.method z f #[v] = (do match ← ReflectliteValue.parts v with | none => z | some (t, a, fl) => f t a fl (fl % 32)) := rfl
theorem asParts2 (a : Addr) (w : World) : (ReflectliteValue.parts (.agg #[.pointer (some ⟨18, 130, none⟩), .pointer (some a), .int .u64 150])).run Tryd.prog w = .ok (some (130, a, 150)) w := by kernel_rfl
theorem asIsNil (a p : Addr) (W : World) (ha : W.cell? a = some (.pointer (some p))) :
    (ReflectliteValue.method (ReflectliteValue.valueError "reflectlite.Value.IsNil" 0) ReflectliteValue.isNil #[.agg #[.pointer (some ⟨18, 130, none⟩), .pointer (some a), .int .u64 150]]).run Tryd.prog W = .ok (.bool false) W := by
  rw [rlm]
  simp only [Sem.run_bind, asParts2, Result.andThen]
  simp [ReflectliteValue.isNil, loadVar, isAgg, underlying, Tryd.underlying130, ha, Result.andThen]
theorem asMethodElem (h : Value) (w : World) : (Go.method 302 154 (.agg #[h]) "Elem").run Tryd.prog w = .ok (105, .agg #[h]) w := by kernel_rfl
theorem asMethodImplements (h : Value) (w : World) : (Go.method 302 154 (.agg #[h]) "Implements").run Tryd.prog w = .ok (106, .agg #[h]) w := by kernel_rfl
theorem asMethodAssignableTo (h : Value) (w : World) : (Go.method 302 154 (.agg #[h]) "AssignableTo").run Tryd.prog w = .ok (103, .agg #[h]) w := by kernel_rfl
theorem asElem (w : World) : (ReflectliteType.method ReflectliteType.elem #[.agg #[.pointer (some ⟨18, 130, none⟩)]]).run Tryd.prog w = .ok (.iface 154 (.agg #[.pointer (some ⟨18, 128, none⟩)])) w := by kernel_rfl
theorem asImplements (w : World) : (ReflectliteType.relation "Implements" ReflectliteType.implements_ #[.agg #[.pointer (some ⟨18, 128, none⟩)], .iface 154 (.agg #[.pointer (some ⟨18, 36, none⟩)])]).run Tryd.prog w = .ok (.bool true) w := by kernel_rfl
theorem asAssignable (w : World) : (ReflectliteType.relation "AssignableTo" ReflectliteType.assignableTo #[.agg #[.pointer (some ⟨18, 169, none⟩)], .iface 154 (.agg #[.pointer (some ⟨18, 128, none⟩)])]).run Tryd.prog w = .ok (.bool false) w := by kernel_rfl
theorem noAsE (v : Value) (xT : TypeId) (w : World) : (Instr.typeAssert (.iface 169 v) xT 166 true).run Tryd.prog w = .ok (.tuple #[.nilIface, .bool false]) w := run_typeAssert_lacksB Tryd.underlying166 (by kernel_rfl) (by kernel_rfl) v xT w

set_option maxRecDepth 100000 in
set_option maxHeartbeats 4000000 in
theorem as_miss (e t : Addr) (w : World) (hg : w.cell? ⟨17, 0, none⟩ = some (.iface 154 (.agg #[.pointer (some ⟨18, 36, none⟩)]))) :
    Calls Tryd.prog 67 #[.iface 169 (.pointer (some e)), .iface 130 (.pointer (some t))] w fun ev w' => ev = .returned (.bool false) ∧ Below w.heap.size w w' := by
  have h6 := @run_callFunc_extern Tryd.prog 72 _ (fun args => ReflectliteValue.unpack (args.getD 0 (.tuple #[]))) Tryd.func72 (by kernel_rfl) (by kernel_rfl) (by kernel_rfl) (by kernel_rfl)
  have h7 := @run_callFunc_extern Tryd.prog 73 _ (ReflectliteValue.methodAny (ReflectliteValue.valueError "reflectlite.Value.Type" 0) (fun t _ _ _ => ReflectliteType.toType t)) Tryd.func73 (by kernel_rfl) (by kernel_rfl) (by kernel_rfl) (by kernel_rfl)
  have h8 := @run_callFunc_extern Tryd.prog 74 _ (ReflectliteValue.method (ReflectliteValue.valueError "reflectlite.Value.IsNil" 0) ReflectliteValue.isNil) Tryd.func74 (by kernel_rfl) (by kernel_rfl) (by kernel_rfl) (by kernel_rfl)
  have h27 := @run_callFunc_extern Tryd.prog 92 _ (ReflectliteType.abiMethod fun t => do pure (.int .u8 (← Rtype.kind t))) Tryd.func92 (by kernel_rfl) (by kernel_rfl) (by kernel_rfl) (by kernel_rfl)
  have h37 := @run_callFunc_extern Tryd.prog 105 _ (ReflectliteType.method ReflectliteType.elem) Tryd.func105 (by kernel_rfl) (by kernel_rfl) (by kernel_rfl) (by kernel_rfl)
  have h38 := @run_callFunc_extern Tryd.prog 106 _ (ReflectliteType.relation "Implements" ReflectliteType.implements_) Tryd.func106 (by kernel_rfl) (by kernel_rfl) (by kernel_rfl) (by kernel_rfl)
  have h10 := @run_callFunc_extern Tryd.prog 69 _ ReflectliteType.typeOf Tryd.func69 (by kernel_rfl) (by kernel_rfl) (by kernel_rfl) (by kernel_rfl)
  have h35 := @run_callFunc_extern Tryd.prog 103 _ (ReflectliteType.relation "AssignableTo" ReflectliteType.assignableTo) Tryd.func103 (by kernel_rfl) (by kernel_rfl) (by kernel_rfl) (by kernel_rfl)
  have tO := isTypeOf
  have mA := asMethodAssignableTo
  have a25 := asAssignable
  have f6 := asValueOf
  have f7 := asType
  have mK := asMethodKind
  have mE := asMethodElem
  have mI := asMethodImplements
  have k27 := asKind2
  have k25 := asKind1
  have e27 := asElem
  have i25 := asImplements
  have nA := noAsE
  have uE := noUnwrapE
  have vE := noUnwrapsE
  have n8 := asIsNil ⟨w.heap.size, 0, none⟩ t ((w.alloc (.cells #[.pointer (some t)] 130)).alloc (.cells #[.pointer (some ⟨18, 130, none⟩), .pointer (some ⟨w.heap.size, 0, none⟩), .int .u64 150] 146)) (by simp)
  have hlt : 17 < w.heap.size := World.block_lt_of_cell? w ⟨17, 0, none⟩ hg
  have hg2 : ((w.alloc (.cells #[.pointer (some t)] 130)).alloc (.cells #[.pointer (some ⟨18, 130, none⟩), .pointer (some ⟨w.heap.size, 0, none⟩), .int .u64 150] 146)).cell? ⟨17, 0, none⟩ = some (.iface 154 (.agg #[.pointer (some ⟨18, 36, none⟩)])) := by
    rw [World.cell?_alloc_lt _ _ ⟨17, 0, none⟩ (by simp; omega), World.cell?_alloc_lt _ _ ⟨17, 0, none⟩ hlt]; exact hg
  go_enter Tryd.func67, Tryd.ntmps67
  go_wp2
  refine wp_loop_rounds 1 ?_
  rw [rounds_succ]
  go_wp2
  go_ret
  refine ⟨rfl, ?_⟩
  repeat (first | exact Below.refl _ _ | (refine Below.alloc ?_ (by simp; try omega) _) | (refine Below.setCell ?_ (by simp; try omega) _))
end Go.Proofs.YtaekabhcgdjhfaaDoor
