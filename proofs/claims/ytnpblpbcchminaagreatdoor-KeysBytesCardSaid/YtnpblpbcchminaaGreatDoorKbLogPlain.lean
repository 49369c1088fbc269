import Derived.Test.YtnpblpbcchminaaGreatDoorKbAid
import Derived.Laws.Bits64b
/- Plain facts behind package bits: ones at the end, ones in all, shifts. No program in sight. -/
namespace Go.Proofs.YtnpblpbcchminaaGreatDoor
open Go.ChangeShapes Go.WideShapes Go.ChangeAt Go.RowKit
set_option linter.unusedVariables false

def onesF : Nat → Nat → Nat
  | 0, _ => 0
  | f + 1, x => if x % 2 = 1 then onesF f (x / 2) + 1 else 0
def cntF : Nat → Nat → Nat
  | 0, _ => 0
  | f + 1, x => x % 2 + cntF f (x / 2)

def ones (x : Nat) : Nat := onesF 64 x
def cnt (x : Nat) : Nat := cntF 64 x
theorem and_u8 (a b : Nat) (ha : a < 256) (hb : b < 256) : bits .and .u8 (a : Int) (b : Int) = ((a &&& b : Nat) : Int) :=
  (bits_nat .u8 8 (by decide) (fun n h h' => IntWalk.u8_in n ⟨h, by simp at h'; omega⟩) a b ha hb).1
theorem and_u64 (a b : Nat) (ha : a < 18446744073709551616) (hb : b < 18446744073709551616) : bits .and .u64 (a : Int) (b : Int) = ((a &&& b : Nat) : Int) :=
  bits_and_u64_nat a b ha hb

/-! shifts up, and down again -/
end Go.Proofs.YtnpblpbcchminaaGreatDoor

/- Plain facts on lengths in bits, logarithms, powers of two below a number. No program in sight. -/
namespace Go.Proofs.YtnpblpbcchminaaGreatDoor
open Go.ChangeShapes Go.WideShapes Go.ChangeAt Go.RowKit
set_option linter.unusedVariables false

/-- how many bits a number has -/
def blen (y : Nat) : Nat := if y = 0 then 0 else Nat.log2 y + 1
/-- the exponent of the least power of two that is not below n -/
def lg (n : Nat) : Nat := blen (n - 1)
/-- the greatest power of two below n (of 2 and more) -/
def blw (n : Nat) : Nat := 2 ^ (blen (n - 1) - 1)
def blwI (n : Int) : Int := ((blw n.toNat : Nat) : Int)
def lgI (n : Int) : Int := ((lg n.toNat : Nat) : Int)
def cntI (n : Int) : Int := ((cnt n.toNat : Nat) : Int)
def onesI (n : Int) : Int := ((ones n.toNat : Nat) : Int)
def blenI (y : Int) : Int := ((blen y.toNat : Nat) : Int)
attribute [irreducible] blwI lgI cntI onesI blenI
end Go.Proofs.YtnpblpbcchminaaGreatDoor

/- Plain facts behind package verify: a path folded from below is the path folded from above. No program in sight. -/
namespace Go.Proofs.YtnpblpbcchminaaGreatDoor
open Go.ChangeShapes Go.WideShapes Go.ChangeAt Go.RowKit
set_option linter.unusedVariables false
section
variable {α : Type} (node : α → α → α)
/-- a path, folded from below: at each level the node has a sibling, or it is the last and goes up as it is -/
def bot : Nat → Nat → Nat → α → List α → Option α
  | 0, _, _, h, ps => if ps = [] then some h else none
  | f + 1, n, size, h, ps =>
    if size ≤ 1 then (match ps with | [] => some h | _ :: _ => none)
    else if n % 2 = 0 ∧ n = size - 1 then bot f (n / 2) ((size + 1) / 2) h ps
    else match ps with
      | [] => none
      | p :: r => if n % 2 = 1 then bot f (n / 2) ((size + 1) / 2) (node p h) r else bot f (n / 2) ((size + 1) / 2) (node h p) r
theorem bot_one {f n size : Nat} {h : α} {ps : List α} (hs : size ≤ 1) : bot node (f + 1) n size h ps = match ps with | [] => some h | _ :: _ => none := by rw [bot.eq_def]; dsimp only; rw [if_pos hs]
theorem bot_last {f n size : Nat} {h : α} {ps : List α} (hs : 2 ≤ size) (he : n % 2 = 0 ∧ n = size - 1) : bot node (f + 1) n size h ps = bot node f (n / 2) ((size + 1) / 2) h ps := by rw [bot.eq_def]; dsimp only; rw [if_neg (by omega), if_pos he]
theorem bot_nil {f n size : Nat} {h : α} (hs : 2 ≤ size) (he : ¬ (n % 2 = 0 ∧ n = size - 1)) : bot node (f + 1) n size h [] = none := by rw [bot.eq_def]; dsimp only; rw [if_neg (by omega), if_neg he]
theorem bot_odd {f n size : Nat} {h p : α} {r : List α} (hs : 2 ≤ size) (he : n % 2 = 1) : bot node (f + 1) n size h (p :: r) = bot node f (n / 2) ((size + 1) / 2) (node p h) r := by rw [bot.eq_def]; dsimp only; rw [if_neg (by omega), if_neg (by omega), if_pos he]
theorem bot_even {f n size : Nat} {h p : α} {r : List α} (hs : 2 ≤ size) (he : n % 2 = 0) (hn : n ≠ size - 1) : bot node (f + 1) n size h (p :: r) = bot node f (n / 2) ((size + 1) / 2) (node h p) r := by rw [bot.eq_def]; dsimp only; rw [if_neg (by omega), if_neg (by omega), if_neg (by omega)]
end
end Go.Proofs.YtnpblpbcchminaaGreatDoor

