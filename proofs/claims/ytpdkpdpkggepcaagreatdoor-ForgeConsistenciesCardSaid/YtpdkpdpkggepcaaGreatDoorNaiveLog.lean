/- naive.New, Size, Leaf, Append. Condition: the package-level variables read as listed. -/
import Derived.Test.YtpdkpdpkggepcaaGreatDoorNaivePlain
namespace Go.Proofs.YtpdkpdpkggepcaaGreatDoor
open Go.ChangeShapes Go.WideShapes Go.ChangeAt Go.RowKit
set_option maxRecDepth 100000
set_option maxHeartbeats 1000000
set_option linter.unusedVariables false
theorem info_str:(Tryz.prog.info? 9).map (fun i => (i.zero,i.size,i.bytes)) = some (some (.string ⟨#[]⟩),1,16):=by kernel_rfl
theorem new_log (base:Nat) (w:World) (hb:base ≤ w.heap.size) :
 Calls Tryz.prog 15 #[] w fun ev w' => ev = .returned (.pointer (some ⟨w.heap.size,0,none⟩)) ∧ LogAt base w.heap.size (.slice none 0 0) [] w' ∧ Below w.heap.size w w':=by
 go_enter Tryz.func15,Tryz.ntmps15
 go_wp2
 go_ret
 exact ⟨rfl,⟨LogOk.nil,hb,heap_at _ _ _ rfl,World.ownsRow_nil _ _ _ _,by simp [Value.ownBlock]⟩,(Below.refl _ _).alloc (Nat.le_refl _) _⟩
theorem lsize_any (base b:Nat) (v:Value) (L:List ByteArray) (w:World) (h:LogAt base b v L w) :
 Calls Tryz.prog 51 #[.pointer (some ⟨b,0,none⟩)] w fun ev w' => ev = .returned (.int .u64 L.length) ∧ w = w':=by
 have c0:=h.c0
 obtain ⟨A,cap,rfl,hcap⟩:=own_shape h.2.2.2.1
 have hL:IntKind.u64.wrap (L.length:Int) = L.length:=IntWalk.u64_in _ (by have:=h.1.1;omega)
 obtain ⟨n,hn⟩:∃ n,L.length = n:=⟨_,rfl⟩
 rw [hn] at hL c0 hcap ⊢
 clear h hn
 go_enter Tryz.func51,Tryz.ntmps51
 go_wp2
 go_ret
 exact ⟨rfl,rfl⟩
theorem lleaf_ok (base b:Nat) (v:Value) (L:List ByteArray) (w:World) (h:LogAt base b v L w) (i:Nat) (s:ByteArray) (hs:L[i]? = some s) :
 Calls Tryz.prog 23 #[.pointer (some ⟨b,0,none⟩),.int .u64 i] w fun ev w' => ev = .returned (.tuple #[.string s,.nilIface]) ∧ w = w':=by
 have c0:=h.c0
 have c1:=h.c1
 have hsz:=fun w => lsize_any base b v L w
 obtain ⟨g,cap,rfl,hcap,hc,hg⟩:=h.leaf hs
 have hi:i < L.length:=(List.getElem?_eq_some_iff.1 hs).1
 have hl:=h.1.1
 have hZ:=Lib.hid (hsz w h)
 obtain ⟨n,hn⟩:∃ n,L.length = n:=⟨_,rfl⟩
 rw [hn] at c0 hcap hi hl
 have HN:=Lib.hid hn
 have hd:decide ((n:Int) ≤ i) = false:=by simp;omega
 have hi':(i:Int) < n:=by omega
 have hi0:(0:Int) ≤ i:=by omega
 have hwi:IntKind.u64.wrap (i:Int) = i:=IntWalk.u64_in _ (by omega)
 clear h hsz hs hi hl hn
 go_enter Tryz.func23,Tryz.ntmps23
 go_wp2_with (go_at_call 51;refine hZ.out.mono ?_;rintro ev w' ⟨rfl,rfl⟩;rw [HN.out])
 go_ret2
 exact ⟨rfl,rfl⟩
theorem append_bad (a:Nat → Addr) (B base b:Nat) (v:Value) (L:List ByteArray) (s:ByteArray) (w:World) (hE:Env B a w) (h:LogAt base b v L w) (hbad:65536 < s.size ∨ 1048576 ≤ L.length) :
 Calls Tryz.prog 16 #[.pointer (some ⟨b,0,none⟩),.string s] w fun ev w' => ev = .returned (.tuple #[.int .u64 0,errV a 4]) ∧ Below w.heap.size w w':=by
 have c0:=h.c0
 have c1:=h.c1
 have he:=hE.laid.e4
 obtain ⟨A,cap,rfl,hcap⟩:=own_shape h.2.2.2.1
 have hl:=h.1.1
 obtain ⟨n,hn⟩:∃ n,L.length = n:=⟨_,rfl⟩
 rw [hn] at c0 hcap hbad hl
 clear h hE hn
 by_cases hs:(65536:Int) < (s.size:Int)
 ·have hs':(65536:Int) < (s.size:Int):=hs
  clear hbad
  go_enter Tryz.func16,Tryz.ntmps16
  go_wp2
  go_quiet (fail)
  go_wp2
  refine bodyPost_ret (v:=.tuple #[.int .u64 0,errV a 4]) (by simp [results,Tryz.results16,go_sem,errV]) rfl ⟨rfl,?_⟩
  exact below_drewN (Below.refl _ _)
 ·have hd:decide ((65536:Int) < (s.size:Int)) = false:=by simpa using hs
  have hn2:(1048576:Int) ≤ n:=by omega
  clear hbad hs
  go_enter Tryz.func16,Tryz.ntmps16
  go_wp2
  go_quiet (fail)
  go_wp2
  refine bodyPost_ret (v:=.tuple #[.int .u64 0,errV a 4]) (by simp [results,Tryz.results16,go_sem,errV]) rfl ⟨rfl,?_⟩
  exact below_drewN (Below.refl _ _)
theorem append_ok (base b:Nat) (v:Value) (L:List ByteArray) (s:ByteArray) (w:World) (h:LogAt base b v L w) (h1:s.size ≤ 65536) (h2:L.length < 1048576) (hbw:base ≤ w.heap.size) :
 Calls Tryz.prog 16 #[.pointer (some ⟨b,0,none⟩),.string s] w fun ev w' => ev = .returned (.tuple #[.int .u64 L.length,.nilIface]) ∧ ∃ v',LogAt base b v' (L ++ [s]) w' ∧ Coll b w w' v v':=by
 have c0:=h.c0
 have c1:=h.c1
 have f0:=h.f0
 obtain ⟨i0,hi,hz0,hz1,hz2⟩:=info_parts info_str
 obtain ⟨A,cap,rfl,hcap⟩:=own_shape h.2.2.2.1
 have hown:=h.2.2.2.1
 have hnb:some b ≠ (Value.slice A L.length cap).ownBlock:=fun e => h.2.2.2.2 e.symm
 have hblt:=h.lt
 have H:=Lib.hid h
 have HS:=Lib.hid (And.intro h1 h2)
 obtain ⟨n,hn⟩:∃ n,L.length = n:=⟨_,rfl⟩
 have hd1:decide ((65536:Int) < (s.size:Int)) = false:=by simp;omega
 have hd2:decide ((1048576:Int) ≤ (n:Int)) = false:=by simp;omega
 rw [hn] at c0 hcap hown hnb h2
 have HN:=Lib.hid hn
 have hwn:IntKind.u64.wrap (n:Int) = n:=IntWalk.u64_in _ (by omega)
 rw [hn]
 have hn9:n < 1048576:=h2
 clear h hn h1 h2
 go_enter Tryz.func16,Tryz.ntmps16
 go_wp2_with (at_builtin;refine wpList_append_lies _ rfl _ _ 22 rfl base 9 i0 (.string ⟨#[]⟩) 1 16 Tryz.underlying22 hi hz0 hz1 hz2 rfl (by decide) (.slice A n cap) _ _ rfl (hown.alloc _) ⟨w.heap.size,0,none⟩ 1 1 _ rfl rfl (news_new _ _) (by simp [Value.oneCell']) (by decide) (by unfold maxLen;omega) (by omega) (by simp;omega) _ rfl ?_;intro g3 cap3 w3 hown3 hgrow3 hat3 hlt3;have hl3:=hgrow3.cell (cell_alloc c0 _) hnb;have hf3:=(hgrow3.frozen_far ⟨b,0,none⟩ (by simp;omega) hnb).trans (frozen_alloc f0 hblt _);have HX:=Lib.hid (And.intro hown3 (And.intro hgrow3 hat3));have hc3:=(show n+1 ≤ cap3 by (obtain ⟨_,_,e,hc⟩:=own_shape hown3;cases e;exact hc));clear hown3 hgrow3 hat3)
 go_ret2
 refine ⟨by first | rfl | (simp;omega),.slice (some ⟨g3,0,none⟩) (n+1) cap3,⟨H.out.1.snoc (by have:=HN.out;omega) HS.out.1,H.out.2.1,?_,?_,?_⟩,?_⟩
 ·have e1:w3.heap[b]? = some (.cells #[.slice A n cap,.bool true] 96 (0,0)):=by
   rw [HX.out.2.1.block b (by simp;omega) hnb,((Below.refl _ w).alloc (Nat.le_refl _) _).block b hblt,H.out.2.2.1,HN.out]
  exact heap_setCell_same _ _ _ _ _ _ e1
 ·refine own_congr (own_setCell HX.out.1 ?_ _) (by simp [HN.out]) (by simp)
  intro q
  rcases HX.out.2.2 with e | e
  ·exact hnb (by rw [q,e];first | rfl | simp [Value.ownBlock])
  ·simp [Value.ownBlock] at q;simp at e;omega
 ·intro q
  rcases HX.out.2.2 with e | e
  ·exact hnb (by rw [← q,e];first | rfl | simp [Value.ownBlock])
  ·simp [Value.ownBlock] at q;simp at e;omega
 ·exact (Coll.below ((Below.refl _ w).alloc (Nat.le_refl _) _)).trans (Coll.append HX.out.2.1 (by simpa using HX.out.2.2) _ rfl)
end Go.Proofs.YtpdkpdpkggepcaaGreatDoor
