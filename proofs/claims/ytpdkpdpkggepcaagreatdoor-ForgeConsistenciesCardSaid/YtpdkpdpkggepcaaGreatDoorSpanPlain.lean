import Derived.Test.YtpdkpdpkggepcaaGreatDoorShapeProof
import Derived.Test.YtpdkpdpkggepcaaGreatDoorShapeBatch
import Derived.Test.YtpdkpdpkggepcaaGreatDoorNotePlain
import Derived.Test.YtpdkpdpkggepcaaGreatDoorNaivePlain
import Derived.Test.YtpdkpdpkggepcaaGreatDoorHashAid
/- Plain facts: the stretches of a path, a proof, a batch proof lie in the log. No program in sight. -/
namespace Go.Proofs.YtpdkpdpkggepcaaGreatDoor
open Go.ChangeShapes Go.WideShapes Go.ChangeAt Go.RowKit
set_option linter.unusedVariables false
def SpansIn (l:List (Int × Int)) (sz:Int):Prop:=∀ p ∈ l,0 ≤ p.1 ∧ p.1 < p.2 ∧ p.2 ≤ sz
theorem proofL_in:∀ (f:Nat) (old b e:Int) (s:Int × Int),b < old → old ≤ e → e - b ≤ pow2 f → s ∈ proofL f old b e → b ≤ s.1 ∧ s.1 < s.2 ∧ s.2 ≤ e
 | 0,old,b,e,s,h1,h2,hp,h => by
  rw [pow2_zero] at hp
  rw [proofL] at h
  rw [if_pos (by omega)] at h
  by_cases q:0 < b
  ·rw [if_pos q] at h;simp at h;subst h;simp only;omega
  ·rw [if_neg q] at h;simp at h
 | f+1,old,b,e,s,h1,h2,hp,h => by
  rw [proofL] at h
  by_cases he:e = old
  ·rw [if_pos he] at h
   by_cases q:0 < b
   ·rw [if_pos q] at h;simp at h;subst h;simp only;omega
   ·rw [if_neg q] at h;simp at h
  ·have hb:=blwI_bd (n:=e - b) (by omega)
   have hk:=blwI_le_pow (n:=e - b) (f:=f) (by omega) hp
   rw [if_neg he] at h
   by_cases hx:old ≤ b+blwI (e - b)
   ·rw [if_pos hx,List.mem_append] at h
    rcases h with h | h
    ·have:=proofL_in f old b _ s h1 hx (by omega) h;omega
    ·simp at h;subst h;simp only;omega
   ·rw [if_neg hx,List.mem_append] at h
    rcases h with h | h
    ·have:=proofL_in f old _ e s (by omega) h2 (by omega) h;omega
    ·simp at h;subst h;simp only;omega
theorem batchL_span:∀ (f:Nat) (x y b e:Int) (s:Int × Int),b < e → e - b ≤ pow2 f → s ∈ batchL f x y b e → b ≤ s.1 ∧ s.1 < s.2 ∧ s.2 ≤ e
 | 0,x,y,b,e,s,h1,hp,h => by
  by_cases ho:e ≤ x ∨ y ≤ b
  ·rw [batchL_out ho] at h;simp at h;subst h;simp only;omega
  ·rw [batchL,if_neg ho] at h;simp at h
 | f+1,x,y,b,e,s,h1,hp,h => by
  by_cases ho:e ≤ x ∨ y ≤ b
  ·rw [batchL_out ho] at h;simp at h;subst h;simp only;omega
  ·by_cases hi:x ≤ b ∧ e ≤ y
   ·rw [batchL_in ho hi] at h;simp at h
   ·have hb:=blwI_bd (n:=e - b) (by omega)
    have hk:=blwI_le_pow (n:=e - b) (f:=f) (by omega) hp
    rw [batchL_half ho hi,List.mem_append] at h
    rcases h with h | h
    ·have:=batchL_span f x y b _ s (by omega) (by omega) h;omega
    ·have:=batchL_span f x y _ e s (by omega) (by omega) h;omega
theorem path_spansIn (ix sz:Int) (h0:0 ≤ ix) (h1:ix < sz) (h2:sz ≤ 9223372036854775808):SpansIn (pathL 64 ix 0 sz) sz:=fun p hp => by
 have:=pathL_in 64 ix 0 sz p h0 h1 (by rw [pow2_64];omega) hp;omega
theorem proof_spansIn (ix sz:Int) (h0:0 < ix) (h1:ix ≤ sz) (h2:sz ≤ 9223372036854775808):SpansIn (proofL 64 ix 0 sz) sz:=fun p hp => by
 have:=proofL_in 64 ix 0 sz p h0 h1 (by rw [pow2_64];omega) hp;omega
theorem batch_spansIn (x y sz:Int) (h0:0 ≤ x) (h1:x < y) (h3:y ≤ sz) (h2:sz ≤ 9223372036854775808):SpansIn (batchL 64 x y 0 sz) sz:=fun p hp => by
 have:=batchL_span 64 x y 0 sz p (by omega) (by rw [pow2_64];omega) hp;omega
/- What a path, a proof says, from its end. No program in sight. -/
theorem snoc_of {α:Type} {P:List α} {n:Nat} (h:P.length = n+1):∃ P' q,P = P' ++ [q] ∧ P'.length = n:=by
 rcases List.eq_nil_or_concat P with e | ⟨P',q,e⟩
 ·rw [e] at h;simp at h
 ·refine ⟨P',q,by simpa using e,?_⟩
  rw [e] at h;simpa using h
theorem last_snoc {α:Type} (P:List α) (q d:α):(P ++ [q]).getLastD d = q:=by simp [List.getLastD_eq_getLast?]
def subP (before:List UInt8):Nat → Int → Int → Int → List (List UInt8) → List UInt8 × List UInt8
 | 0,_,b,_,P => if b = 0 then (before,before) else (P.headD [],P.headD [])
 | f+1,old,b,e,P => if e = old then (if b = 0 then (before,before) else (P.headD [],P.headD []))
  else if old ≤ b+blwI (e - b) then ((subP before f old b (b+blwI (e - b)) P.dropLast).1,nodeH (subP before f old b (b+blwI (e - b)) P.dropLast).2 (P.getLastD []))
  else (nodeH (P.getLastD []) (subP before f old (b+blwI (e - b)) e P.dropLast).1,nodeH (P.getLastD []) (subP before f old (b+blwI (e - b)) e P.dropLast).2)
theorem subP_end (before:List UInt8) (f:Nat) (b e:Int) (P:List (List UInt8)):subP before f e b e P = if b = 0 then (before,before) else (P.headD [],P.headD []):=by
 cases f with
 | zero => rfl
 | succ f => rw [subP,if_pos rfl]
def firstL:List ((Int × Int) × List UInt8) → (Int × Int) → Option (List UInt8)
 | [],_ => none
 | x :: r,p => if x.1 = p then some x.2 else firstL r p
theorem first_at:∀ {l:List (Int × Int)} {P:List (List UInt8)} {k:Nat} {p:Int × Int} {y:List UInt8},(∀ j,j < k → l[j]? ≠ some p) → l[k]? = some p → P[k]? = some y → firstL (l.zip P) p = some y
 | [],_,k,p,y,_,h2,_ => by simp at h2
 | _ :: _,[],k,p,y,_,_,h3 => by simp at h3
 | x :: l,z :: P,0,p,y,_,h2,h3 => by
  simp at h2 h3
  rw [List.zip_cons_cons,firstL,if_pos h2,h3]
 | x :: l,z :: P,k+1,p,y,h1,h2,h3 => by
  have h0:=h1 0 (by omega)
  simp at h0
  rw [List.zip_cons_cons,firstL,if_neg h0]
  exact first_at (k:=k) (fun j hj => by simpa using h1 (j+1) (by omega)) (by simpa using h2) (by simpa using h3)
theorem first_no:∀ {l:List (Int × Int)} {P:List (List UInt8)} {p:Int × Int},(∀ j,j < l.length → l[j]? ≠ some p) → firstL (l.zip P) p = none
 | [],_,p,_ => by simp [firstL]
 | _ :: _,[],p,_ => by simp [firstL]
 | x :: l,z :: P,p,h => by
  have h0:=h 0 (by simp)
  simp at h0
  rw [List.zip_cons_cons,firstL,if_neg h0]
  exact first_no (fun j hj => by simpa using h (j+1) (by simpa using hj))
end Go.Proofs.YtpdkpdpkggepcaaGreatDoor
