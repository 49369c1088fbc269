/- A log of texts: what its trees hash to; how it lies in memory. No condition. -/
import Derived.Test.YtpdkpdpkggepcaaGreatDoorHashAid
import Derived.Test.YtpdkpdpkggepcaaGreatDoorNotePlain
namespace Go.Proofs.YtpdkpdpkggepcaaGreatDoor
open Go.ChangeShapes Go.WideShapes Go.ChangeAt Go.RowKit
set_option linter.unusedVariables false
def leafG (L:List ByteArray) (i:Int):List UInt8:=leafH (L.getD i.toNat ByteArray.empty)
def treeB (L:List ByteArray) (b e:Int):List UInt8:=if b = e then shaB [] else treeT nodeH (leafG L) b e
theorem treeF_len (L:List ByteArray):∀ (f:Nat) (b e:Int),(treeF nodeH f (leafG L) b e).length = 32
 | 0,b,e => by rw [treeF];exact leafH_length _
 | f+1,b,e => by
  rw [treeF]
  split
  ·exact leafH_length _
  ·exact nodeH_length _ _
theorem treeT_len (L:List ByteArray) (b e:Int):(treeT nodeH (leafG L) b e).length = 32:=treeF_len L 64 b e
theorem treeB_len (L:List ByteArray) (b e:Int):(treeB L b e).length = 32:=by
 unfold treeB
 split
 ·exact shaB_length _
 ·exact treeT_len L b e
theorem treeF_congr {α:Type} (node:α → α → α) (g g':Int → α):∀ (f:Nat) (b e:Int),b < e → (∀ i,b ≤ i → i < e → g i = g' i) → treeF node f g b e = treeF node f g' b e
 | 0,b,e,h,hg => by rw [treeF,treeF];exact hg b (by omega) h
 | f+1,b,e,h,hg => by
  rw [treeF,treeF]
  by_cases h2:e - b < 2
  ·rw [if_pos h2,if_pos h2];exact hg b (by omega) h
  ·have hb:=blwI_bd (n:=e - b) (by omega)
   rw [if_neg h2,if_neg h2,treeF_congr node g g' f b _ (by omega) (fun i h1 h3 => hg i h1 (by omega)),treeF_congr node g g' f _ e (by omega) (fun i h1 h3 => hg i (by omega) h3)]
theorem treeB_more (L M:List ByteArray) (b e:Int) (hb:0 ≤ b) (hbe:b ≤ e) (he:e ≤ (L.length:Int)):treeB (L ++ M) b e = treeB L b e:=by
 unfold treeB
 by_cases h:b = e
 ·rw [if_pos h,if_pos h]
 ·rw [if_neg h,if_neg h]
  refine treeF_congr nodeH _ _ 64 b e (by omega) (fun i h1 h2 => ?_)
  unfold leafG
  rw [List.getD_eq_getElem?_getD,List.getD_eq_getElem?_getD,List.getElem?_append_left (by omega)]
def LogOk (L:List ByteArray):Prop:=L.length ≤ 1048576 ∧ ∀ s ∈ L,s.size ≤ 65536
theorem LogOk.nil:LogOk []:=⟨by simp,fun _ h => by simp at h⟩
theorem LogOk.snoc {L:List ByteArray} {s:ByteArray} (h:LogOk L) (h1:L.length < 1048576) (h2:s.size ≤ 65536):LogOk (L ++ [s]):=⟨by simp;omega,fun x hx => by
 rcases List.mem_append.1 hx with q | q
 ·exact h.2 x q
 ·simp at q;subst q;exact h2⟩
def LogAt (base b:Nat) (v:Value) (L:List ByteArray) (w:World):Prop :=
 LogOk L ∧ base ≤ b ∧ w.heap[b]? = some (.cells #[v,.bool true] 96 (0,0)) ∧ w.ownsRow base 9 1 v L.length (L.map Value.string) ∧ v.ownBlock ≠ some b
theorem own_kept {w w':World} {base:Nat} {e:TypeId} {size:Nat} {v:Value} {n:Nat} {xs:List Value} (h:w.ownsRow base e size v n xs) (hk:∀ g,v.ownBlock = some g → w'.heap[g]? = w.heap[g]?):w'.ownsRow base e size v n xs:=by
 refine ⟨h.1,?_⟩
 rcases h.2 with q | ⟨g,cap,cur,h1,h2,h3,h4⟩
 ·exact .inl q
 ·exact .inr ⟨g,cap,cur,h1,h2,(hk g (by rw [h1];rfl)).trans h3,h4⟩
theorem LogAt.lt {base b:Nat} {v:Value} {L:List ByteArray} {w:World} (h:LogAt base b v L w):b < w.heap.size:=(Array.getElem?_eq_some_iff.1 h.2.2.1).1
theorem LogAt.kept {base b:Nat} {v:Value} {L:List ByteArray} {w w':World} (h:LogAt base b v L w) (h1:w'.heap[b]? = w.heap[b]?) (h2:∀ g,v.ownBlock = some g → w'.heap[g]? = w.heap[g]?):LogAt base b v L w' :=
 ⟨h.1,h.2.1,h1.trans h.2.2.1,own_kept h.2.2.2.1 h2,h.2.2.2.2⟩
theorem LogAt.below {base b:Nat} {v:Value} {L:List ByteArray} {w w':World} (h:LogAt base b v L w) (hb:Below w.heap.size w w'):LogAt base b v L w' :=
 h.kept (hb.block b h.lt) (fun g hg => hb.block g (h.2.2.2.1.lt g hg).2)
theorem LogAt.alloc {base b:Nat} {v:Value} {L:List ByteArray} {w:World} (h:LogAt base b v L w) (o:Obj):LogAt base b v L (w.alloc o):=h.below ((Below.refl _ _).alloc (Nat.le_refl _) _)
theorem LogAt.c0 {base b:Nat} {v:Value} {L:List ByteArray} {w:World} (h:LogAt base b v L w):w.cell? ⟨b,0,none⟩ = some v:=by rw [cell_of_row w b 0 _ 96 (0,0) h.2.2.1];rfl
theorem LogAt.c1 {base b:Nat} {v:Value} {L:List ByteArray} {w:World} (h:LogAt base b v L w):w.cell? ⟨b,1,none⟩ = some (.bool true):=by rw [cell_of_row w b 1 _ 96 (0,0) h.2.2.1];rfl
theorem LogAt.f0 {base b:Nat} {v:Value} {L:List ByteArray} {w:World} (h:LogAt base b v L w):w.frozen? ⟨b,0,none⟩ = false:=frozen_of_row w b 0 _ 96 h.2.2.1
theorem LogAt.leaf {base b:Nat} {v:Value} {L:List ByteArray} {w:World} (h:LogAt base b v L w) {i:Nat} {s:ByteArray} (hs:L[i]? = some s):∃ g cap,v = .slice (some ⟨g,0,none⟩) L.length cap ∧ L.length ≤ cap ∧ w.cell? ⟨g,i,none⟩ = some (.string s) ∧ g < w.heap.size:=by
 rcases h.2.2.2.1.2 with ⟨h1,h2⟩ | ⟨g,cap,cur,h1,h2,h3,h4,_⟩
 ·rw [List.length_eq_zero_iff.1 h2] at hs;simp at hs
 ·have hc:=h.2.2.2.1.cells (g:=g) (by rw [h1];rfl) i (.string s) (by simp [hs])
  rw [addr_add] at hc
  exact ⟨g,cap,h1,h4,hc,block_of_cell hc⟩
end Go.Proofs.YtpdkpdpkggepcaaGreatDoor
