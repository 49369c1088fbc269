/- The stretches of a batch proof, and the stack by which they are found. No program in sight. -/
import Derived.Test.YtpdkpdpkggepcaaGreatDoorMem
import Derived.Test.YtpdkpdpkggepcaaGreatDoorShapePath
namespace Go.Proofs.YtpdkpdpkggepcaaGreatDoor
open Go.ChangeShapes Go.WideShapes Go.ChangeAt Go.RowKit
set_option linter.unusedVariables false
def batchL:Nat → Int → Int → Int → Int → List (Int × Int)
 | 0,x,y,b,e => if e ≤ x ∨ y ≤ b then [(b,e)] else []
 | f+1,x,y,b,e => if e ≤ x ∨ y ≤ b then [(b,e)] else if x ≤ b ∧ e ≤ y then [] else batchL f x y b (b+blwI (e - b)) ++ batchL f x y (b+blwI (e - b)) e
theorem batchL_out {f:Nat} {x y b e:Int} (h:e ≤ x ∨ y ≤ b):batchL f x y b e = [(b,e)]:=by cases f <;> unfold batchL <;> rw [if_pos h]
theorem batchL_in {f:Nat} {x y b e:Int} (h:¬ (e ≤ x ∨ y ≤ b)) (hi:x ≤ b ∧ e ≤ y):batchL f x y b e = []:=by
 cases f
 ·unfold batchL;rw [if_neg h]
 ·unfold batchL;rw [if_neg h,if_pos hi]
theorem batchL_half {f:Nat} {x y b e:Int} (h:¬ (e ≤ x ∨ y ≤ b)) (hi:¬ (x ≤ b ∧ e ≤ y)):batchL (f+1) x y b e = batchL f x y b (b+blwI (e - b)) ++ batchL f x y (b+blwI (e - b)) e:=by
 rw [batchL,if_neg h,if_neg hi]
theorem batchL_len1:∀ (f:Nat) (x y b e:Int),x ≤ b ∨ e ≤ y → b < e → e - b ≤ pow2 f → (batchL f x y b e).length ≤ f+1
 | 0,x,y,b,e,_,_,_ => by unfold batchL;split <;> simp
 | f+1,x,y,b,e,h,hbe,hp => by
  by_cases ho:e ≤ x ∨ y ≤ b
  ·rw [batchL_out ho];simp
  ·by_cases hi:x ≤ b ∧ e ≤ y
   ·rw [batchL_in ho hi];simp
   ·rw [batchL_half ho hi]
    by_cases h2:e - b < 2
    ·exfalso;omega
    ·have hk:=blwI_bd (n:=e - b) (by omega)
     have hkf:=blwI_le_pow (n:=e - b) (f:=f) (by omega) hp
     rcases h with h | h
     ·by_cases hy:y ≤ b+blwI (e - b)
      ·have h1:=batchL_len1 f x y b (b+blwI (e - b)) (.inl h) (by omega) (by omega)
       rw [batchL_out (b:=b+blwI (e - b)) (.inr hy),List.length_append]
       simp;omega
      ·have h1:=batchL_len1 f x y (b+blwI (e - b)) e (.inl (by omega)) (by omega) (by omega)
       rw [batchL_in (b:=b) (e:=b+blwI (e - b)) (by omega) (by omega),List.nil_append];omega
     ·by_cases hx:b+blwI (e - b) ≤ x
      ·have h1:=batchL_len1 f x y (b+blwI (e - b)) e (.inr h) (by omega) (by omega)
       rw [batchL_out (b:=b) (e:=b+blwI (e - b)) (.inl hx),List.length_append]
       simp;omega
      ·have h1:=batchL_len1 f x y b (b+blwI (e - b)) (.inr (by omega)) (by omega) (by omega)
       rw [batchL_in (b:=b+blwI (e - b)) (e:=e) (by omega) (by omega),List.append_nil];omega
theorem batchL_len:∀ (f:Nat) (x y b e:Int),b < e → e - b ≤ pow2 f → (batchL f x y b e).length ≤ 2 * f+1
 | 0,x,y,b,e,_,_ => by unfold batchL;split <;> simp
 | f+1,x,y,b,e,hbe,hp => by
  by_cases ho:e ≤ x ∨ y ≤ b
  ·rw [batchL_out ho];simp
  ·by_cases hi:x ≤ b ∧ e ≤ y
   ·rw [batchL_in ho hi];simp
   ·rw [batchL_half ho hi,List.length_append]
    by_cases h2:e - b < 2
    ·exfalso;omega
    ·have hk:=blwI_bd (n:=e - b) (by omega)
     have hkf:=blwI_le_pow (n:=e - b) (f:=f) (by omega) hp
     by_cases hy:y ≤ b+blwI (e - b)
     ·have h1:=batchL_len f x y b (b+blwI (e - b)) (by omega) (by omega)
      rw [batchL_out (b:=b+blwI (e - b)) (.inr hy)];simp;omega
     ·by_cases hx:b+blwI (e - b) ≤ x
      ·have h1:=batchL_len f x y (b+blwI (e - b)) e (by omega) (by omega)
       rw [batchL_out (b:=b) (e:=b+blwI (e - b)) (.inl hx)];simp;omega
      ·have h1:=batchL_len1 f x y b (b+blwI (e - b)) (.inr (by omega)) (by omega) (by omega)
       have h3:=batchL_len1 f x y (b+blwI (e - b)) e (.inl (by omega)) (by omega) (by omega)
       omega
/-! the stack, the next one first: each with its fuel -/
def Up:Nat → List (Nat × Int × Int) → Prop
 | _,[] => True
 | g,x :: r => g ≤ x.1 ∧ x.1 ≤ 64 ∧ 0 ≤ x.2.1 ∧ x.2.1 < x.2.2 ∧ x.2.2 ≤ 9223372036854775808 ∧ x.2.2 - x.2.1 ≤ pow2 x.1 ∧ Up (x.1+1) r
theorem Up.weak:∀ {g g':Nat} {l:List (Nat × Int × Int)},Up g l → g' ≤ g → Up g' l
 | _,_,[],_,_ => trivial
 | _,_,_ :: _,h,hg => ⟨Nat.le_trans hg h.1,h.2⟩
theorem Up.len:∀ {g:Nat} {l:List (Nat × Int × Int)},Up g l → g ≤ 65 → l.length+g ≤ 65
 | _,[],_,hg => by simpa using hg
 | g,x :: r,h,hg => by have:=Up.len h.2.2.2.2.2.2 (by have:=h.2.1;omega);have:=h.1;have:=h.2.1;simp;omega
def Stk:List (Nat × Int × Int) → Prop
 | [] => True
 | x :: r => x.1 ≤ 64 ∧ 0 ≤ x.2.1 ∧ x.2.1 < x.2.2 ∧ x.2.2 ≤ 9223372036854775808 ∧ x.2.2 - x.2.1 ≤ pow2 x.1 ∧ Up x.1 r
theorem Stk.pop {x:Nat × Int × Int} {r:List (Nat × Int × Int)} (h:Stk (x :: r)):Stk r:=by
 cases r with
 | nil => trivial
 | cons y r => have q:=h.2.2.2.2.2;exact ⟨q.2.1,q.2.2.1,q.2.2.2.1,q.2.2.2.2.1,q.2.2.2.2.2.1,q.2.2.2.2.2.2.weak (Nat.le_succ _)⟩
theorem Stk.len {l:List (Nat × Int × Int)} (h:Stk l):l.length ≤ 66:=by
 cases l with
 | nil => simp
 | cons x r => have:=Up.len h.2.2.2.2.2 (by have:=h.1;omega);simp;omega
theorem Stk.split {f:Nat} {b e:Int} {r:List (Nat × Int × Int)} (h:Stk ((f+1,b,e) :: r)) (h2:2 ≤ e - b):Stk ((f,b,b+blwI (e - b)) :: (f,b+blwI (e - b),e) :: r):=by
 obtain ⟨h1,h3,h4,h5,h6,h7⟩:=h
 simp only at h1 h3 h4 h5 h6 h7
 have hk:=blwI_bd h2
 have hkf:=blwI_le_pow h2 h6
 exact ⟨by simp only;omega,h3,by simp only;omega,by simp only;omega,by simp only;omega,by simp only;omega,by simp only;omega,by simp only;omega,by simp only;omega,h5,by simp only;omega,h7⟩
def flat (x y:Int) (l:List (Nat × Int × Int)):List (Int × Int):=l.flatMap fun s => batchL s.1 x y s.2.1 s.2.2
def wt:List (Nat × Int × Int) → Nat
 | [] => 0
 | s :: r => (2 * (s.2.2 - s.2.1) - 1).toNat+wt r
def stkCells (l:List (Nat × Int × Int)):List Value:=spanCells (l.reverse.map (·.2))
theorem spanCells_len (l:List (Int × Int)):(spanCells l).length = l.length * 2:=by
 induction l with
 | nil => rfl
 | cons x r ih => simp only [spanCells,List.flatMap_cons,List.length_append,List.length_cons,List.length_nil] at *;omega
theorem stkCells_cons (x:Nat × Int × Int) (r:List (Nat × Int × Int)):stkCells (x :: r) = stkCells r ++ [.int .u64 x.2.1,.int .u64 x.2.2]:=by
 simp [stkCells,spanCells]
theorem stkCells_len (l:List (Nat × Int × Int)):(stkCells l).length = l.length * 2:=by rw [stkCells,spanCells_len];simp
theorem stkCells_top0 (x:Nat × Int × Int) (r:List (Nat × Int × Int)):(stkCells (x :: r))[r.length * 2]? = some (.int .u64 x.2.1):=by
 rw [stkCells_cons,List.getElem?_append_right (by rw [stkCells_len];exact Nat.le_refl _),stkCells_len];simp
theorem stkCells_top1 (x:Nat × Int × Int) (r:List (Nat × Int × Int)):(stkCells (x :: r))[r.length * 2+1]? = some (.int .u64 x.2.2):=by
 rw [stkCells_cons,List.getElem?_append_right (by rw [stkCells_len];omega),stkCells_len];simp
theorem stkCells_pop {x:Nat × Int × Int} {r:List (Nat × Int × Int)} {j:Nat} {u:Value} (h:(stkCells r)[j]? = some u):(stkCells (x :: r))[j]? = some u:=by
 rw [stkCells_cons,List.getElem?_append_left (List.getElem?_eq_some_iff.1 h).1];exact h
end Go.Proofs.YtpdkpdpkggepcaaGreatDoor
