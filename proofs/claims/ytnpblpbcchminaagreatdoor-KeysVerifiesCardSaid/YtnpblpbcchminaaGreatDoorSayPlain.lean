/- What a path, a proof says, from its end. No program in sight. -/
import Derived.Test.YtnpblpbcchminaaGreatDoorLogPlain
import Derived.Test.YtnpblpbcchminaaGreatDoorHashAid
namespace Go.Proofs.YtnpblpbcchminaaGreatDoor
open Go.ChangeShapes Go.WideShapes Go.ChangeAt Go.RowKit
set_option linter.unusedVariables false
theorem snoc_of {α : Type} {P : List α} {n : Nat} (h : P.length = n + 1) : ∃ P' q, P = P' ++ [q] ∧ P'.length = n := by
  rcases List.eq_nil_or_concat P with e | ⟨P', q, e⟩
  · rw [e] at h; simp at h
  · refine ⟨P', q, by simpa using e, ?_⟩
    rw [e] at h; simpa using h
/-- what a path says, from its end -/
def sayP (lf : List UInt8) : Nat → Int → Int → Int → List (List UInt8) → List UInt8
  | 0, _, _, _, _ => lf
  | f + 1, ix, b, e, P => if e - b < 2 then lf else if ix < b + blwI (e - b) then nodeH (sayP lf f ix b (b + blwI (e - b)) P.dropLast) (P.getLastD []) else nodeH (P.getLastD []) (sayP lf f ix (b + blwI (e - b)) e P.dropLast)
theorem last_snoc {α : Type} (P : List α) (q d : α) : (P ++ [q]).getLastD d = q := by simp [List.getLastD_eq_getLast?]
/-- what a proof says that both roots are, from its end -/
def subP (before : List UInt8) : Nat → Int → Int → Int → List (List UInt8) → List UInt8 × List UInt8
  | 0, _, b, _, P => if b = 0 then (before, before) else (P.headD [], P.headD [])
  | f + 1, old, b, e, P => if e = old then (if b = 0 then (before, before) else (P.headD [], P.headD []))
    else if old ≤ b + blwI (e - b) then ((subP before f old b (b + blwI (e - b)) P.dropLast).1, nodeH (subP before f old b (b + blwI (e - b)) P.dropLast).2 (P.getLastD []))
    else (nodeH (P.getLastD []) (subP before f old (b + blwI (e - b)) e P.dropLast).1, nodeH (P.getLastD []) (subP before f old (b + blwI (e - b)) e P.dropLast).2)
theorem subP_end (before : List UInt8) (f : Nat) (b e : Int) (P : List (List UInt8)) : subP before f e b e P = if b = 0 then (before, before) else (P.headD [], P.headD []) := by
  cases f with
  | zero => rfl
  | succ f => rw [subP, if_pos rfl]
/-- a list's own order does not matter where no stretch stands twice: the first that is told -/
def firstL : List ((Int × Int) × List UInt8) → (Int × Int) → Option (List UInt8)
  | [], _ => none
  | x :: r, p => if x.1 = p then some x.2 else firstL r p
theorem first_at : ∀ {l : List (Int × Int)} {P : List (List UInt8)} {k : Nat} {p : Int × Int} {y : List UInt8}, (∀ j, j < k → l[j]? ≠ some p) → l[k]? = some p → P[k]? = some y → firstL (l.zip P) p = some y
  | [], _, k, p, y, _, h2, _ => by simp at h2
  | _ :: _, [], k, p, y, _, _, h3 => by simp at h3
  | x :: l, z :: P, 0, p, y, _, h2, h3 => by
    simp at h2 h3
    rw [List.zip_cons_cons, firstL, if_pos h2, h3]
  | x :: l, z :: P, k + 1, p, y, h1, h2, h3 => by
    have h0 := h1 0 (by omega)
    simp at h0
    rw [List.zip_cons_cons, firstL, if_neg h0]
    exact first_at (k := k) (fun j hj => by simpa using h1 (j + 1) (by omega)) (by simpa using h2) (by simpa using h3)
theorem first_no : ∀ {l : List (Int × Int)} {P : List (List UInt8)} {p : Int × Int}, (∀ j, j < l.length → l[j]? ≠ some p) → firstL (l.zip P) p = none
  | [], _, p, _ => by simp [firstL]
  | _ :: _, [], p, _ => by simp [firstL]
  | x :: l, z :: P, p, h => by
    have h0 := h 0 (by simp)
    simp at h0
    rw [List.zip_cons_cons, firstL, if_neg h0]
    exact first_no (fun j hj => by simpa using h (j + 1) (by simpa using hj))
end Go.Proofs.YtnpblpbcchminaaGreatDoor
