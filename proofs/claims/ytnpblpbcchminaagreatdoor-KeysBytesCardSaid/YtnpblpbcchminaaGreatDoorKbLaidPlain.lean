import Derived.Test.YtnpblpbcchminaaGreatDoorKbAid
import Derived.LaidLaws
import Derived.LaidHandle
import Derived.ChangeVars
import Derived.JoinedOf
import Derived.Stop.LaidErr
import Derived.Stop.Joined
/- What a list of laid variables gives: one variable at a time. No program in sight. -/
namespace Go.Proofs.YtnpblpbcchminaaGreatDoor
open Go.ChangeShapes Go.WideShapes Go.ChangeAt Go.RowKit
set_option linter.unusedVariables false
variable {P : Program} {W : World}
/-- one sentinel of the list -/
theorem step_sent {n nm : String} {text : List UInt8} {r : List (String × DataW Unit)} {ps : List MemPlace} {g : Nat} {ti tp te ts : TypeId} {ms : Array (String × TypeId)} {f : Field}
    (h : DataW.LaidVars P W ((n, .iface nm (.ptr (.agg [.lit (.string text)]))) :: r) ps)
    (hrows : ∀ b off, MemPlace.cell b off ∈ ps → (∃ c t, W.heap[b]? = some (.cells c t (0, 0))) ∧ ∀ u v, W.cell? ⟨b, off, none⟩ = some (.iface u v) → Value.okWide P W .any 0 u v)
    (hg : P.globalNamed n = some g) (ht : (P.globals[g]?).map (·.type) = some ti)
    (hi : P.underlying ti = some (.interface ms)) (hrow : ∀ u, P.typeName? 3 u = some nm → u = tp)
    (hp : P.underlying tp = some (.pointer te)) (he : P.underlying te = some (.struct #[f])) (hft : f.type = ts) (hfo : f.offset = 0) (hs : P.underlying ts = some .string) (hc : P.cellsOf te = 1) (hcs : P.cellsOf ts = 1) :
    ∃ (a : Addr) (q : List MemPlace), W.cell? ⟨g, 0, none⟩ = some (.iface tp (.pointer (some a))) ∧ a.block < W.heap.size ∧ (∃ c t, W.heap[a.block]? = some (.cells c t (0, 0))) ∧ DataW.LaidVars P W r q ∧ ps = .cell g 0 :: .cell a.block a.off :: q := by
  obtain ⟨g', t', cs, f0, p0, q0, hg', ht', hv0, hd0, hrest, e0⟩ := h
  obtain rfl := Option.some.inj (hg.symm.trans hg')
  obtain rfl := Option.some.inj (ht.symm.trans ht')
  subst e0
  obtain ⟨l0⟩ := cs
  have ok0 : ∀ u v, l0 = [.iface u v] → Value.okWide P W .any 0 u v := fun u v e => by
    subst e
    exact (hrows g 0 (by simp [MemPlace.row])).2 u v (by simpa using World.var?_cell hg' hv0 0)
  obtain ⟨a, s0, rfl, hc0, hs0, hz0, rfl⟩ := errorString_of_trod hi hrow hp he hft hfo hs hc hcs hd0 ok0
  refine ⟨a, q0, by simpa using World.var?_cell hg' hv0 0, World.block_lt_of_cell? W a hc0, (hrows a.block a.off (by simp [MemPlace.row])).1, hrest, ?_⟩
  simp [MemPlace.row]
/-- one variable of plain data: past it -/
theorem step_data {n : String} {d : DataW Unit} {r : List (String × DataW Unit)} {ps : List MemPlace} {g : Nat} {ti : TypeId}
    (h : DataW.LaidVars P W ((n, d) :: r) ps) (hg : P.globalNamed n = some g) (ht : (P.globals[g]?).map (·.type) = some ti) :
    ∃ (cs : Array Value) (fuel : Nat) (p q : List MemPlace), W.var? P n = some cs ∧ DataW.trod (fun _ => ()) P W 0 (fun _ => true) false fuel ti cs.toList = some (d, p) ∧ DataW.LaidVars P W r q ∧ ps = MemPlace.row ⟨g, 0, none⟩ cs.size ++ p ++ q := by
  obtain ⟨g', t', cs, f0, p0, q0, hg', ht', hv0, hd0, hrest, e0⟩ := h
  obtain rfl := Option.some.inj (hg.symm.trans hg')
  obtain rfl := Option.some.inj (ht.symm.trans ht')
  exact ⟨cs, f0, p0, q0, hv0, hd0, hrest, e0⟩
theorem int_of_trod1 {H : Type} {enc : TypeId × Value → H} {base : Nat} {sp : Nat → Bool} {held : Bool} {fuel : Nat} {t : TypeId} {k : IntKind} {c : Value} {y : DataW H × List MemPlace}
    (ht : P.underlying t = some (.int k)) (h : DataW.trod enc P W base sp held fuel t [c] = some y) : ∃ n, c = .int k n ∧ y = (.lit (.int k n), []) := by
  cases fuel with
  | zero => simp [DataW.trod] at h
  | succ fuel =>
    cases c <;> simp [DataW.trod, ht] at h
    rename_i k' n
    obtain ⟨⟨rfl, _⟩, rfl⟩ := h
    exact ⟨n, rfl, rfl⟩
/-- a table of integers: its cells -/
theorem table_cells {H : Type} {enc : TypeId × Value → H} {base : Nat} {sp : Nat → Bool} {held : Bool} {fuel n : Nat} {t e : TypeId} {k : IntKind} {cs : List Value} {l : List Int} {p : List MemPlace}
    (ht : P.underlying t = some (.array n e)) (he : P.underlying e = some (.int k)) (hce : P.cellsOf e = 1) (hct : P.cellsOf t = n)
    (h : DataW.trod enc P W base sp held fuel t cs = some (.agg (l.map fun x => .lit (.int k x)), p)) : ∀ (i : Nat) (x : Int), l[i]? = some x → cs[i]? = some (.int k x) := by
  obtain ⟨xs, m, _, hx, hlen, hxl, hel⟩ := DataW.trod_array ht h
  simp only [Prod.mk.injEq, DataW.agg.injEq] at hx
  intro i x hi
  have hll : l.length = n := by have := congrArg List.length hx.1; simpa [hxl] using this
  have hin : i < n := by rw [← hll]; exact (List.getElem?_eq_some_iff.1 hi).1
  have h1 := hel i hin
  rw [hce, Nat.mul_one] at h1
  have hic : i < cs.length := by rw [hlen, hct]; exact hin
  rw [List.drop_eq_getElem_cons hic] at h1
  simp only [List.take_succ_cons, List.take_zero] at h1
  have hxi : xs[i]? = some (xs[i]'(by omega)) := List.getElem?_eq_getElem (by omega)
  rw [hxi] at h1
  obtain ⟨n', hn1, hn2⟩ := int_of_trod1 he h1
  have h2 : (l.map fun x => (DataW.lit (.int k x) : DataW H))[i]? = (xs.map (·.1))[i]? := by rw [hx.1]
  rw [List.getElem?_map, hi, List.getElem?_map, hxi, hn2] at h2
  simp at h2
  rw [List.getElem?_eq_getElem hic, hn1, h2]
end Go.Proofs.YtnpblpbcchminaaGreatDoor
