/-
  No cell of these rows narrows 'for every input' (looked for: loops, veiled, ifaces, maps, wideKeys, modest, calm, conditions, laid).
  DERIVED. THE GIVEN ROWS OF THIS SEAT. 8 by the template 'for every input the law returns true; each argument reads behind the call as it read before'; 0 by the template 'total and deterministic' (their statements: YtaekhijmnbeahaaTotals.lean).
  GIVEN WITH THE SEED: the statements are not yours to turn. If you find one false, say at which input.
  Laid BY PROGRAM, IN A SANDBOX (cutbox-rows.mjs): the forced cells as the released guide's own fill.sh prints them over the translation 5c370266ff8412e1… (all of the seat's roots in one cut). By AI agents, Wed Nov 11 2026. No macro, syntax, notation, axiom, sorry.
-/
import Derived.Test.YtaekhijmnbeahaaChecked
import GoSem.Claim
import GoSem.ClaimJoined
import GoSem.ClaimMapViews
import Derived.JoinedTies
import Derived.KernelRfl
namespace Go.Proofs.Ytaekhijmnbeahaa
/- THE CELL 'sum', in the pinned program and in every row, IS THE sha256 OF THE DUMP (.gsa) THAT YtaekhijmnbeahaaProg.lean LOADS. Nothing in Lean hashes anything: it is a label: what it is worth is what the hold of that sum in a sandbox is worth. -/
noncomputable def Try.pinned : Pinned := { name := "ytaekhijmnbeahaa", sum := "5c370266ff8412e18122fa40c467c4ab13139275cc9c96bc54827b7277529f57", checked := Try.checked }
namespace Rows
def none {H : Type} : Left H := { results := [], args := [] }

/-- 'cartularylaw01.BitsAdds': WHATEVER THE INPUT: true; the input reads as it did. -/
def bitsAddsSpec : ChangeSpec := { name := "bitsAdds", fn := fun _ => fun
  | [d1, d2] => { results := [.lit (.bool true)], args := [d1, d2] }
  | _ => none }
def bitsAddsRow : OpenClaim := { program := "ytaekhijmnbeahaa", sum := "5c370266ff8412e18122fa40c467c4ab13139275cc9c96bc54827b7277529f57", func := "cartulary/cartularylaw01.BitsAdds", spec := "bitsAdds", apart := false }
def BitsAddsSaid : Prop := bitsAddsRow.holds Try.pinned (OpenSpec.ofChange bitsAddsSpec)

/-- ITS FALSE NEIGHBOUR: 'it returns false'. Refute it at one input. -/
def bitsAddsWrong : ChangeSpec := { name := "bitsAdds", fn := fun _ => fun
  | [d1, d2] => { results := [.lit (.bool false)], args := [d1, d2] }
  | _ => none }
def BitsAddsWrongFalsely : Prop := bitsAddsRow.holds Try.pinned (OpenSpec.ofChange bitsAddsWrong)

/-- 'cartularylaw01.BitsFits': WHATEVER THE INPUT: true; the input reads as it did. -/
def bitsFitsSpec : ChangeSpec := { name := "bitsFits", fn := fun _ => fun
  | [d] => { results := [.lit (.bool true)], args := [d] }
  | _ => none }
def bitsFitsRow : OpenClaim := { program := "ytaekhijmnbeahaa", sum := "5c370266ff8412e18122fa40c467c4ab13139275cc9c96bc54827b7277529f57", func := "cartulary/cartularylaw01.BitsFits", spec := "bitsFits", apart := false }
def BitsFitsSaid : Prop := bitsFitsRow.holds Try.pinned (OpenSpec.ofChange bitsFitsSpec)

/-- ITS FALSE NEIGHBOUR: 'it returns false'. Refute it at one input. -/
def bitsFitsWrong : ChangeSpec := { name := "bitsFits", fn := fun _ => fun
  | [d] => { results := [.lit (.bool false)], args := [d] }
  | _ => none }
def BitsFitsWrongFalsely : Prop := bitsFitsRow.holds Try.pinned (OpenSpec.ofChange bitsFitsWrong)

/-- 'cartularylaw01.BitsLefts': WHATEVER THE INPUT: true; the input reads as it did. -/
def bitsLeftsSpec : ChangeSpec := { name := "bitsLefts", fn := fun _ => fun
  | [d1, d2] => { results := [.lit (.bool true)], args := [d1, d2] }
  | _ => none }
def bitsLeftsRow : OpenClaim := { program := "ytaekhijmnbeahaa", sum := "5c370266ff8412e18122fa40c467c4ab13139275cc9c96bc54827b7277529f57", func := "cartulary/cartularylaw01.BitsLefts", spec := "bitsLefts", apart := false }
def BitsLeftsSaid : Prop := bitsLeftsRow.holds Try.pinned (OpenSpec.ofChange bitsLeftsSpec)

/-- ITS FALSE NEIGHBOUR: 'it returns false'. Refute it at one input. -/
def bitsLeftsWrong : ChangeSpec := { name := "bitsLefts", fn := fun _ => fun
  | [d1, d2] => { results := [.lit (.bool false)], args := [d1, d2] }
  | _ => none }
def BitsLeftsWrongFalsely : Prop := bitsLeftsRow.holds Try.pinned (OpenSpec.ofChange bitsLeftsWrong)

/-- 'cartularylaw01.BitsOnes': WHATEVER THE INPUT: true; the input reads as it did. -/
def bitsOnesSpec : ChangeSpec := { name := "bitsOnes", fn := fun _ => fun
  | [d] => { results := [.lit (.bool true)], args := [d] }
  | _ => none }
def bitsOnesRow : OpenClaim := { program := "ytaekhijmnbeahaa", sum := "5c370266ff8412e18122fa40c467c4ab13139275cc9c96bc54827b7277529f57", func := "cartulary/cartularylaw01.BitsOnes", spec := "bitsOnes", apart := false }
def BitsOnesSaid : Prop := bitsOnesRow.holds Try.pinned (OpenSpec.ofChange bitsOnesSpec)

/-- ITS FALSE NEIGHBOUR: 'it returns false'. Refute it at one input. -/
def bitsOnesWrong : ChangeSpec := { name := "bitsOnes", fn := fun _ => fun
  | [d] => { results := [.lit (.bool false)], args := [d] }
  | _ => none }
def BitsOnesWrongFalsely : Prop := bitsOnesRow.holds Try.pinned (OpenSpec.ofChange bitsOnesWrong)

/-- 'cartularylaw01.BitsPowers': WHATEVER THE INPUT: true; the input reads as it did. -/
def bitsPowersSpec : ChangeSpec := { name := "bitsPowers", fn := fun _ => fun
  | [d1, d2] => { results := [.lit (.bool true)], args := [d1, d2] }
  | _ => none }
def bitsPowersRow : OpenClaim := { program := "ytaekhijmnbeahaa", sum := "5c370266ff8412e18122fa40c467c4ab13139275cc9c96bc54827b7277529f57", func := "cartulary/cartularylaw01.BitsPowers", spec := "bitsPowers", unfollowed := true, recurses := true, apart := false }
def BitsPowersSaid : Prop := bitsPowersRow.holds Try.pinned (OpenSpec.ofChange bitsPowersSpec)

/-- ITS FALSE NEIGHBOUR: 'it returns false'. Refute it at one input. -/
def bitsPowersWrong : ChangeSpec := { name := "bitsPowers", fn := fun _ => fun
  | [d1, d2] => { results := [.lit (.bool false)], args := [d1, d2] }
  | _ => none }
def BitsPowersWrongFalsely : Prop := bitsPowersRow.holds Try.pinned (OpenSpec.ofChange bitsPowersWrong)

/-- 'cartularylaw01.BitsBetween': WHATEVER THE INPUT: true; the input reads as it did. -/
def bitsBetweenSpec : ChangeSpec := { name := "bitsBetween", fn := fun _ => fun
  | [d] => { results := [.lit (.bool true)], args := [d] }
  | _ => none }
def bitsBetweenRow : OpenClaim := { program := "ytaekhijmnbeahaa", sum := "5c370266ff8412e18122fa40c467c4ab13139275cc9c96bc54827b7277529f57", func := "cartulary/cartularylaw01.BitsBetween", spec := "bitsBetween", apart := false }
def BitsBetweenSaid : Prop := bitsBetweenRow.holds Try.pinned (OpenSpec.ofChange bitsBetweenSpec)

/-- ITS FALSE NEIGHBOUR: 'it returns false'. Refute it at one input. -/
def bitsBetweenWrong : ChangeSpec := { name := "bitsBetween", fn := fun _ => fun
  | [d] => { results := [.lit (.bool false)], args := [d] }
  | _ => none }
def BitsBetweenWrongFalsely : Prop := bitsBetweenRow.holds Try.pinned (OpenSpec.ofChange bitsBetweenWrong)

/-- 'cartularylaw01.BitsSums': WHATEVER THE INPUT: true; the input reads as it did. -/
def bitsSumsSpec : ChangeSpec := { name := "bitsSums", fn := fun _ => fun
  | [d1, d2, d3] => { results := [.lit (.bool true)], args := [d1, d2, d3] }
  | _ => none }
def bitsSumsRow : OpenClaim := { program := "ytaekhijmnbeahaa", sum := "5c370266ff8412e18122fa40c467c4ab13139275cc9c96bc54827b7277529f57", func := "cartulary/cartularylaw01.BitsSums", spec := "bitsSums", apart := false }
def BitsSumsSaid : Prop := bitsSumsRow.holds Try.pinned (OpenSpec.ofChange bitsSumsSpec)

/-- ITS FALSE NEIGHBOUR: 'it returns false'. Refute it at one input. -/
def bitsSumsWrong : ChangeSpec := { name := "bitsSums", fn := fun _ => fun
  | [d1, d2, d3] => { results := [.lit (.bool false)], args := [d1, d2, d3] }
  | _ => none }
def BitsSumsWrongFalsely : Prop := bitsSumsRow.holds Try.pinned (OpenSpec.ofChange bitsSumsWrong)

/-- 'cartularylaw01.BitsTold': WHATEVER THE INPUT: true; the input reads as it did. -/
def bitsToldSpec : ChangeSpec := { name := "bitsTold", fn := fun _ => fun
  | [d] => { results := [.lit (.bool true)], args := [d] }
  | _ => none }
def bitsToldRow : OpenClaim := { program := "ytaekhijmnbeahaa", sum := "5c370266ff8412e18122fa40c467c4ab13139275cc9c96bc54827b7277529f57", func := "cartulary/cartularylaw01.BitsTold", spec := "bitsTold", unfollowed := true, recurses := true, apart := false }
def BitsToldSaid : Prop := bitsToldRow.holds Try.pinned (OpenSpec.ofChange bitsToldSpec)

/-- ITS FALSE NEIGHBOUR: 'it returns false'. Refute it at one input. -/
def bitsToldWrong : ChangeSpec := { name := "bitsTold", fn := fun _ => fun
  | [d] => { results := [.lit (.bool false)], args := [d] }
  | _ => none }
def BitsToldWrongFalsely : Prop := bitsToldRow.holds Try.pinned (OpenSpec.ofChange bitsToldWrong)

/- THE SECOND FORM. 'bulk': how many values and letters a reading holds, each counted each time it is reached (what is shared counts as often as it is met; a slice's spare places count too). A statement '..UptoSaid' is the law's where the arguments, and the package variables that the reading takes, are together of bulk at most 1048576: NARROWER than '..Said'. Prove '..Said' where nothing that the law and all that it calls make is longer than what came in: it says more and counts as full. Else prove '..UptoSaid'. A law counts once. -/
mutual
def uptoBulk {H : Type} : DataW H → Nat
  | .lit (.string bytes) => bytes.length + 1
  | .lit _ => 1
  | .nil => 1
  | .ptr d => uptoBulk d + 1
  | .slice elems spare => uptoBulkAll elems + uptoBulkAll spare + 1
  | .agg parts => uptoBulkAll parts + 1
  | .iface _ d => uptoBulk d + 1
  | .map entries => uptoBulkEntries entries + 1
  | .held _ => 1
def uptoBulkAll {H : Type} : List (DataW H) → Nat
  | [] => 0
  | d :: r => uptoBulk d + uptoBulkAll r
def uptoBulkEntries {H : Type} : List (Lit × DataW H) → Nat
  | [] => 0
  | x :: r => uptoBulkEntry x + uptoBulkEntries r
def uptoBulkEntry {H : Type} : Lit × DataW H → Nat
  | (.string bytes, d) => bytes.length + uptoBulk d + 1
  | (_, d) => uptoBulk d + 1
 end
def uptoSmall : (H : Type) → List (DataW H) → Bool := fun _ ds => decide (uptoBulkAll ds ≤ 1048576)
def OpenSpec.upto (s : _root_.Go.ChangeSpec) : _root_.Go.OpenSpec := { _root_.Go.OpenSpec.ofChange s with cond := some uptoSmall }

/-- 'cartularylaw01.BitsAdds', WHERE WHAT IT READS IS OF BULK AT MOST 1048576: true; the input reads as it did. -/
def bitsAddsUptoRow : OpenClaim := { program := "ytaekhijmnbeahaa", sum := "5c370266ff8412e18122fa40c467c4ab13139275cc9c96bc54827b7277529f57", func := "cartulary/cartularylaw01.BitsAdds", spec := "bitsAdds", apart := false, narrowed := true }
def BitsAddsUptoSaid : Prop := bitsAddsUptoRow.holds Try.pinned (OpenSpec.upto bitsAddsSpec)

/-- 'cartularylaw01.BitsFits', WHERE WHAT IT READS IS OF BULK AT MOST 1048576: true; the input reads as it did. -/
def bitsFitsUptoRow : OpenClaim := { program := "ytaekhijmnbeahaa", sum := "5c370266ff8412e18122fa40c467c4ab13139275cc9c96bc54827b7277529f57", func := "cartulary/cartularylaw01.BitsFits", spec := "bitsFits", apart := false, narrowed := true }
def BitsFitsUptoSaid : Prop := bitsFitsUptoRow.holds Try.pinned (OpenSpec.upto bitsFitsSpec)

/-- 'cartularylaw01.BitsLefts', WHERE WHAT IT READS IS OF BULK AT MOST 1048576: true; the input reads as it did. -/
def bitsLeftsUptoRow : OpenClaim := { program := "ytaekhijmnbeahaa", sum := "5c370266ff8412e18122fa40c467c4ab13139275cc9c96bc54827b7277529f57", func := "cartulary/cartularylaw01.BitsLefts", spec := "bitsLefts", apart := false, narrowed := true }
def BitsLeftsUptoSaid : Prop := bitsLeftsUptoRow.holds Try.pinned (OpenSpec.upto bitsLeftsSpec)

/-- 'cartularylaw01.BitsOnes', WHERE WHAT IT READS IS OF BULK AT MOST 1048576: true; the input reads as it did. -/
def bitsOnesUptoRow : OpenClaim := { program := "ytaekhijmnbeahaa", sum := "5c370266ff8412e18122fa40c467c4ab13139275cc9c96bc54827b7277529f57", func := "cartulary/cartularylaw01.BitsOnes", spec := "bitsOnes", apart := false, narrowed := true }
def BitsOnesUptoSaid : Prop := bitsOnesUptoRow.holds Try.pinned (OpenSpec.upto bitsOnesSpec)

/-- 'cartularylaw01.BitsPowers', WHERE WHAT IT READS IS OF BULK AT MOST 1048576: true; the input reads as it did. -/
def bitsPowersUptoRow : OpenClaim := { program := "ytaekhijmnbeahaa", sum := "5c370266ff8412e18122fa40c467c4ab13139275cc9c96bc54827b7277529f57", func := "cartulary/cartularylaw01.BitsPowers", spec := "bitsPowers", unfollowed := true, recurses := true, apart := false, narrowed := true }
def BitsPowersUptoSaid : Prop := bitsPowersUptoRow.holds Try.pinned (OpenSpec.upto bitsPowersSpec)

/-- 'cartularylaw01.BitsBetween', WHERE WHAT IT READS IS OF BULK AT MOST 1048576: true; the input reads as it did. -/
def bitsBetweenUptoRow : OpenClaim := { program := "ytaekhijmnbeahaa", sum := "5c370266ff8412e18122fa40c467c4ab13139275cc9c96bc54827b7277529f57", func := "cartulary/cartularylaw01.BitsBetween", spec := "bitsBetween", apart := false, narrowed := true }
def BitsBetweenUptoSaid : Prop := bitsBetweenUptoRow.holds Try.pinned (OpenSpec.upto bitsBetweenSpec)

/-- 'cartularylaw01.BitsSums', WHERE WHAT IT READS IS OF BULK AT MOST 1048576: true; the input reads as it did. -/
def bitsSumsUptoRow : OpenClaim := { program := "ytaekhijmnbeahaa", sum := "5c370266ff8412e18122fa40c467c4ab13139275cc9c96bc54827b7277529f57", func := "cartulary/cartularylaw01.BitsSums", spec := "bitsSums", apart := false, narrowed := true }
def BitsSumsUptoSaid : Prop := bitsSumsUptoRow.holds Try.pinned (OpenSpec.upto bitsSumsSpec)

/-- 'cartularylaw01.BitsTold', WHERE WHAT IT READS IS OF BULK AT MOST 1048576: true; the input reads as it did. -/
def bitsToldUptoRow : OpenClaim := { program := "ytaekhijmnbeahaa", sum := "5c370266ff8412e18122fa40c467c4ab13139275cc9c96bc54827b7277529f57", func := "cartulary/cartularylaw01.BitsTold", spec := "bitsTold", unfollowed := true, recurses := true, apart := false, narrowed := true }
def BitsToldUptoSaid : Prop := bitsToldUptoRow.holds Try.pinned (OpenSpec.upto bitsToldSpec)

end Rows
end Go.Proofs.Ytaekhijmnbeahaa
