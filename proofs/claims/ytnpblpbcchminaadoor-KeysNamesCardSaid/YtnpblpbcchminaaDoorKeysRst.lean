/- A reader that stands somewhere or has a fault: Var, Hash, End. Condition: the table reads as listed. -/
import Derived.Test.YtnpblpbcchminaaDoorKeysRep
namespace Go.Proofs.YtnpblpbcchminaaDoor
open Go.ChangeShapes Go.WideShapes Go.ChangeAt Go.RowKit
set_option linter.unusedVariables false
/-- a reader in block p: at a place, or with a fault -/
def RSt (p : Nat) (w : World) (S : ByteArray) : Option Nat → Prop
  | some i => ROk p w S i
  | none => RBad p w S
/-- the next number; the next hash; the place behind them -/
def varS (S : ByteArray) : Option Nat → Nat × Option Nat
  | none => (0, none)
  | some i => match numF 0 0 ((bOf S).drop i) with
    | some (v, k) => (v, some (i + k))
    | none => (0, none)
def hashS (S : ByteArray) : Option Nat → List UInt8 × Option Nat
  | none => (zeroH, none)
  | some i => if i + 32 ≤ S.size then (((bOf S).drop i).take 32, some (i + 32)) else (zeroH, none)
/-- the place behind so many hashes; the hash there -/
def stS (S : ByteArray) (o : Option Nat) : Nat → Option Nat
  | 0 => o
  | k + 1 => (hashS S (stS S o k)).2
def hsS (S : ByteArray) (o : Option Nat) (k : Nat) : List UInt8 := (hashS S (stS S o k)).1
theorem hashS_length (S : ByteArray) (o : Option Nat) : (hashS S o).1.length = 32 := by
  unfold hashS
  split
  · exact zeroH_length
  · split
    · rename_i i h
      rw [List.length_take, List.length_drop, bOf_length]; omega
    · exact zeroH_length
theorem hsS_length (S : ByteArray) (o : Option Nat) (k : Nat) : (hsS S o k).length = 32 := hashS_length S _
theorem RSt.lt {p : Nat} {w : World} {S : ByteArray} {o : Option Nat} (h : RSt p w S o) : p < w.heap.size := by
  cases o with
  | none => obtain ⟨i, x, h⟩ := h; exact h.lt
  | some i => exact RRow.lt h
theorem RSt.below {p : Nat} {w w' : World} {S : ByteArray} {o : Option Nat} (h : RSt p w S o) (hb : Below w.heap.size w w') : RSt p w' S o := by
  cases o with
  | none => exact RBad.below h hb
  | some i => exact RRow.below h hb
/-- the reader's row, which is all that hangs on the world -/
theorem RSt.row {p : Nat} {w : World} {S : ByteArray} {o : Option Nat} (h : RSt p w S o) : ∃ rv, w.heap[p]? = some (.cells rv 97 (0, 0)) ∧ ∀ w' : World, w'.heap[p]? = some (.cells rv 97 (0, 0)) → RSt p w' S o := by
  cases o with
  | none =>
    obtain ⟨i, x, h1, h2⟩ := h
    exact ⟨_, h1, fun w' h' => ⟨i, x, h', h2⟩⟩
  | some i => exact ⟨_, h.1, fun w' h' => ⟨h', h.2⟩⟩
theorem rvar_st (a : Nat → Addr) (B p : Nat) (S : ByteArray) (o : Option Nat) (w : World) (hE : Env B a w) (hpB : B ≤ p) (h : RSt p w S o) :
    Calls Tryd.prog 35 #[.pointer (some ⟨p, 0, none⟩)] w fun ev w' => ev = .returned (.int .u64 (varS S o).1) ∧ RSt p w' S (varS S o).2 ∧ But (· = p) w w' := by
  cases o with
  | none => 
    refine (rvar_bad p S w h).mono ?_
    rintro ev w' ⟨rfl, rfl⟩
    exact ⟨rfl, h, But.refl _ _⟩
  | some i =>
    cases hn : numF 0 0 ((bOf S).drop i) with
    | none =>
      have e : varS S (some i) = (0, none) := by simp [varS, hn]
      rw [e]
      exact rvar_none a B p i S w hE hpB h hn
    | some q =>
      obtain ⟨v, k⟩ := q
      have e : varS S (some i) = (v, some (i + k)) := by simp [varS, hn]
      rw [e]
      exact rvar_some p i v k S w h hn
theorem rhash_st (a : Nat → Addr) (B p : Nat) (S : ByteArray) (o : Option Nat) (w : World) (hE : Env B a w) (hpB : B ≤ p) (h : RSt p w S o) :
    Calls Tryd.prog 37 #[.pointer (some ⟨p, 0, none⟩)] w fun ev w' => ev = .returned (hv (hashS S o).1) ∧ RSt p w' S (hashS S o).2 ∧ But (· = p) w w' := by
  cases o with
  | none => exact (rhash_bad p S w h).mono fun ev w' q => ⟨q.1, RSt.below (o := none) h q.2, but_of p q.2⟩
  | some i =>
    by_cases hk : i + 32 ≤ S.size
    · have e : hashS S (some i) = (((bOf S).drop i).take 32, some (i + 32)) := by show (if i + 32 ≤ S.size then _ else _) = _; rw [if_pos hk]
      rw [e]
      exact rhash_yes p i S w h hk
    · have e : hashS S (some i) = (zeroH, none) := by show (if i + 32 ≤ S.size then _ else _) = _; rw [if_neg hk]
      rw [e]
      exact rhash_no a B p i S w hE hpB h (by omega)
theorem rend_st (a : Nat → Addr) (B p : Nat) (S : ByteArray) (o : Option Nat) (w : World) (hE : Env B a w) (h : RSt p w S o) :
    Calls Tryd.prog 38 #[.pointer (some ⟨p, 0, none⟩)] w fun ev w' => ((o = some S.size ∧ ev = .returned .nilIface) ∨ (o ≠ some S.size ∧ ∃ x, ev = .returned (.iface 85 (.pointer (some x))))) ∧ Below w.heap.size w w' := by
  cases o with
  | none => exact (rend_bad p S w h).mono fun ev w' q => ⟨.inr ⟨by simp, q.1⟩, q.2⟩
  | some i =>
    by_cases hi : i = S.size
    · subst hi
      exact (rend_done p S w h).mono fun ev w' q => ⟨.inl ⟨rfl, q.1⟩, q.2⟩
    · exact (rend_left a B p i S w hE h (by have := h.2.1; omega)).mono fun ev w' q => ⟨.inr ⟨by simp; omega, q.1⟩, q.2⟩
end Go.Proofs.YtnpblpbcchminaaDoor
