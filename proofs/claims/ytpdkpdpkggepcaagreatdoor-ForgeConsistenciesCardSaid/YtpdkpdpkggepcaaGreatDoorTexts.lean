import Derived.Test.YtpdkpdpkggepcaaGreatDoorMem
import Derived.Test.YtpdkpdpkggepcaaGreatDoorRows
import Derived.Test.YtpdkpdpkggepcaaGreatDoorHashAid
import Derived.SliceStrings
/- cartularylaw01.Beyond: are lengths, taken together, too many? No condition. -/
namespace Go.Proofs.YtpdkpdpkggepcaaGreatDoor
open Go.ChangeShapes Go.WideShapes Go.ChangeAt Go.RowKit
set_option maxRecDepth 100000
set_option maxHeartbeats 2000000
set_option linter.unusedVariables false
def sumTo (l:List Nat) (k:Nat):Nat:=(l.take k).sum
theorem sumTo_step {l:List Nat} {k x:Nat} (h:l[k]? = some x):sumTo l (k+1) = sumTo l k+x:=by
 unfold sumTo;rw [List.take_add_one,h];simp
theorem sumTo_le (l:List Nat) (k:Nat):sumTo l k ≤ l.sum:=by
 unfold sumTo
 have:=List.sum_append (l₁:=l.take k) (l₂:=l.drop k)
 rw [List.take_append_drop] at this;omega
theorem sumTo_all (l:List Nat):sumTo l l.length = l.sum:=by unfold sumTo;rw [List.take_length]
attribute [irreducible] sumTo
theorem beyond_any (l:List Nat) (g n c:Nat) (w:World) (hn:l.length = n) (hx:∀ x ∈ l,x ≤ 9000000000000000000) (hr:∀ (j x:Nat),l[j]? = some x → w.cell? ⟨g,j,none⟩ = some (.int .i64 x)) (hnm:n ≤ 1000) :
 Calls Tryz.prog 5 #[.slice (some ⟨g,0,none⟩) n c] w fun ev w' => ev = .returned (.bool (decide (1048576 < l.sum))) ∧ w = w':=by
 have HN:=Lib.hid (And.intro hn (And.intro hx hr))
 clear hn hx hr
 go_enter Tryz.func5,Tryz.ntmps5
 go_wp2
 go_loop [3,4] (fun s i => ∃ k t:Nat,k ≤ n ∧ i = .int .i64 k ∧ s = .int .i64 t ∧ t ≤ 1048576 ∧ Hid (t = sumTo l k)) (fun _ i => n - (intOf i).toNat)
 case atStart => exact ⟨0,0,Nat.zero_le _,rfl,rfl,by omega,Lib.hid (by unfold sumTo;simp)⟩
 case round =>
  obtain ⟨k,t,hk,rfl,rfl,ht,HT⟩:=hrel
  by_cases hlt:k < n
  ·obtain ⟨x,hx⟩:∃ x,l[k]? = some x:=⟨_,List.getElem?_eq_getElem (by have:=HN.out.1;omega)⟩
   have hc:=HN.out.2.2 k x hx
   have hxb:=HN.out.2.1 x (List.mem_of_getElem? hx)
   have hst:=Lib.hid (sumTo_step hx)
   have i0:(0:Int) ≤ k:=by omega
   have i1:(k:Int) < n:=by omega
   clear hx
   by_cases hgt:1048576 < t+x
   ·have hgt':(1048576:Int) < (t:Int)+x:=by omega
    go_wp2
    go_ret
    refine ⟨ret_bool ?_,rfl⟩
    have:=sumTo_le l (k+1)
    have h1:=hst.out
    have h2:=HT.out
    simp;omega
   ·have hle:((t:Int)+x) ≤ 1048576:=by omega
    go_wp2
    go_round
    case rel => exact ⟨k+1,t+x,by omega,by go_num,by go_num,by omega,Lib.hid (by rw [hst.out,HT.out])⟩
    case measure => simp [intOf];omega
  ·obtain rfl:k = n:=by omega
   go_wp2
   go_ret
   refine ⟨ret_bool ?_,rfl⟩
   have h2:=HT.out
   rw [← HN.out.1,sumTo_all] at h2
   simp;omega
/- cartularylaw01.TextsSize: how many bytes texts have, and one for each. No condition. A list of texts as an argument. -/
def SIn (w:World) (A:Option Addr) (n cap:Nat) (l:List ByteArray):Prop:=l.length = n ∧ n ≤ cap ∧ cap ≤ 9223372036854775807 ∧ (∀ s ∈ l,s.size ≤ 140737488355328) ∧ n ≤ 140737488355328 ∧ (l = [] ∨ ∃ g o,A = some ⟨g,o,none⟩ ∧ w.rangeAt g o (l.map Value.string))
theorem SIn.below {w w':World} {A:Option Addr} {n cap:Nat} {l:List ByteArray} (h:SIn w A n cap l) (hb:Below w.heap.size w w'):SIn w' A n cap l:=by
 obtain ⟨h1,h2,h3,h4,h6,h5⟩:=h
 refine ⟨h1,h2,h3,h4,h6,?_⟩
 rcases h5 with h5 | ⟨g,o,h6,h7⟩
 ·exact .inl h5
 ·by_cases hl:l = []
  ·exact .inl hl
  ·exact .inr ⟨g,o,h6,rangeAt_below hb h7 (rangeAt_lt h7 (by simpa using hl))⟩
theorem SIn.at {w:World} {A:Option Addr} {n cap:Nat} {l:List ByteArray} (h:SIn w A n cap l) {k:Nat} {s:ByteArray} (hk:l[k]? = some s):∃ g o,A = some ⟨g,o,none⟩ ∧ w.cell? ⟨g,o+k,none⟩ = some (.string s) ∧ g < w.heap.size ∧ s.size ≤ 140737488355328:=by
 obtain ⟨h1,h2,h3,h4,h6,h5⟩:=h
 rcases h5 with rfl | ⟨g,o,rfl,h7⟩
 ·simp at hk
 ·have hc:=h7 k (.string s) (by simp [hk])
  exact ⟨g,o,rfl,hc,block_of_cell hc,h4 s (List.mem_of_getElem? hk)⟩
def bulk (l:List ByteArray):Nat:=(l.map fun s => s.size+1).sum
def bulkTo (l:List ByteArray) (k:Nat):Nat:=bulk (l.take k)
theorem bulkTo_step {l:List ByteArray} {k:Nat} {s:ByteArray} (h:l[k]? = some s):bulkTo l (k+1) = bulkTo l k+s.size+1:=by
 unfold bulkTo bulk;rw [List.take_add_one,h];simp;omega
theorem bulkTo_le (l:List ByteArray) (k:Nat):bulkTo l k ≤ bulk l:=by
 unfold bulkTo bulk
 have:=List.sum_append (l₁:=(l.take k).map fun s => s.size+1) (l₂:=(l.drop k).map fun s => s.size+1)
 rw [← List.map_append,List.take_append_drop] at this;omega
theorem bulkTo_all (l:List ByteArray):bulkTo l l.length = bulk l:=by unfold bulkTo;rw [List.take_length]
attribute [irreducible] bulkTo bulk
theorem texts_any (l:List ByteArray) (A:Option Addr) (n c:Nat) (w:World) (h:SIn w A n c l) :
 Calls Tryz.prog 6 #[.slice A n c] w fun ev w' => ∃ t:Nat,ev = .returned (.int .i64 t) ∧ t ≤ 9000000000000000000 ∧ (t = bulk l ∨ 1048576 < t ∧ 1048576 < bulk l) ∧ w = w':=by
 have hn9:n ≤ 140737488355328:=h.2.2.2.2.1
 have HN:=Lib.hid h
 clear h
 go_enter Tryz.func6,Tryz.ntmps6
 go_wp2
 go_loop [3,4] (fun s i => ∃ k t:Nat,k ≤ n ∧ i = .int .i64 k ∧ s = .int .i64 t ∧ t ≤ 140737489403906 ∧ Hid (t = bulkTo l k)) (fun _ i => n - (intOf i).toNat)
 case atStart => exact ⟨0,0,Nat.zero_le _,rfl,rfl,by omega,Lib.hid (by unfold bulkTo bulk;simp)⟩
 case round =>
  obtain ⟨k,t,hk,rfl,rfl,ht,HT⟩:=hrel
  by_cases hlt:k < n
  ·obtain ⟨s,hs⟩:∃ s,l[k]? = some s:=⟨_,List.getElem?_eq_getElem (by have:=HN.out.1;omega)⟩
   obtain ⟨g,o,rfl,hc,_,hsz⟩:=HN.out.at hs
   have hst:=Lib.hid (bulkTo_step hs)
   have i0:(0:Int) ≤ k:=by omega
   have i1:(k:Int) < n:=by omega
   have hsz':(s.size:Int) ≤ 140737488355328:=by omega
   by_cases hgt:t ≤ 1048576
   ·have hgt':(t:Int) ≤ 1048576:=by omega
    clear hs
    go_wp2
    go_round
    case rel => exact ⟨k+1,t+1+s.size,by omega,by go_num,by go_num,by omega,Lib.hid (by rw [hst.out,HT.out];omega)⟩
    case measure => simp [intOf];omega
   ·have hd:decide ((t:Int) ≤ 1048576) = false:=by simp;omega
    clear hs
    go_wp2
    refine bodyPost_ret (v:=.int .i64 t) (by simp [results,Tryz.results6,go_sem]) rfl ⟨t,rfl,by omega,?_,rfl⟩
    have:=bulkTo_le l k
    have h2:=HT.out
    omega
  ·obtain rfl:k = n:=by omega
   go_wp2
   refine bodyPost_ret (v:=.int .i64 t) (by simp [results,Tryz.results6,go_sem]) rfl ⟨t,rfl,by omega,?_,rfl⟩
   have h2:=HT.out
   rw [← HN.out.1,bulkTo_all] at h2
   omega
end Go.Proofs.YtpdkpdpkggepcaaGreatDoor
