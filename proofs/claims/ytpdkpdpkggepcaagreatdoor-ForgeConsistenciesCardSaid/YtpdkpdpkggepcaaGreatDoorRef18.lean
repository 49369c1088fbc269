import Derived.Test.YtpdkpdpkggepcaaGreatDoorMem
import Derived.Test.YtpdkpdpkggepcaaGreatDoorRefNode
import Derived.Test.YtpdkpdpkggepcaaGreatDoorForgeApi
import Derived.Test.YtpdkpdpkggepcaaGreatDoorNaiveTree
import Derived.Test.YtpdkpdpkggepcaaGreatDoorForgeClaim
import Derived.BigRegion
import Derived.Deep.DeepCutAuto
import Derived.Test.YtpdkpdpkggepcaaGreatDoorSpanPlain
import Derived.Test.YtpdkpdpkggepcaaGreatDoorShapePath
import Derived.Test.YtpdkpdpkggepcaaGreatDoorSameHashes
import Derived.Deep.MidRow
import Derived.Test.YtpdkpdpkggepcaaGreatDoorTwinHash
/- cartularyref05.LeafText, Leaf, Empty; cartularyref08.Below, MTH, Tree, Root: the tree of a log's stretch. No condition. -/
namespace Go.Proofs.YtpdkpdpkggepcaaGreatDoor
open Go.ChangeShapes Go.WideShapes Go.ChangeAt Go.RowKit
set_option maxRecDepth 100000
set_option maxHeartbeats 8000000
open Lib (hid)
set_option linter.unusedVariables false
theorem leaftext_any (s:ByteArray) (w:World) (hs:s.size ≤ 99999999999):Calls Tryz.prog 63 #[.string s] w fun ev w' => (∃ t,ev = .returned (.string t) ∧ bOf t = 0 :: bOf s ∧ t.size ≤ 100000000000) ∧ w = w':=by
 have z0:ByteArray.size ⟨#[0]⟩ = 1:=rfl
 go_enter Tryz.func63,Tryz.ntmps63
 go_wp2
 go_ret
 refine ⟨⟨_,rfl,by simp [bOf],?_⟩,rfl⟩
 simp [z0];omega
theorem refleaf_any (s:ByteArray) (w:World) (hs:s.size ≤ 99999999999) :
 Calls Tryz.prog 30 #[.string s] w fun ev w' => ev = .returned (hv (leafH s)) ∧ Below w.heap.size w w':=by
 obtain ⟨vr,evr,Hvr,Zvr,Ivr,Ovr⟩:=row_of (leafH s) (leafH_length s)
 obtain ⟨wv,hwv⟩:∃ y,w.alloc (.cells (List.replicate 32 (Value.int .u8 0)).toArray 39) = y:=⟨_,rfl⟩
 have HB:Hid (Below w.heap.size w wv):=hid (by rw [← hwv];exact (Below.refl _ _).alloc (Nat.le_refl _) _)
 have RV:Hid (wv.heap[w.heap.size]? = some (.cells (List.replicate 32 (Value.int .u8 0)).toArray 39 (0,0))):=hid (by rw [← hwv];exact heap_at _ _ _ rfl)
 have HWV:=hid hwv
 simp only [List.replicate,List.toArray] at HWV
 have EVR:=hid evr
 rw [evr]
 clear evr hwv
 go_enter Tryz.func30,Tryz.ntmps30
 go_upto_region 1 with fail
 rw [HWV.out]
 go_wp2_with fail
 refine (leaftext_any s wv hs).mono ?_
 rintro ev w0 ⟨⟨t,rfl,ht,hts⟩,rfl⟩
 have HTT:=hid (And.intro ht hts)
 clear ht hts
 go_wp2_with fail
 refine (refsum_any t wv HTT.out.2).mono ?_
 rw [HTT.out.1,← leafH_eq,EVR.out]
 rintro ev w1 ⟨rfl,b1⟩
 have R1:Hid (w1.heap[w.heap.size]? = some (.cells (List.replicate 32 (Value.int .u8 0)).toArray 39 (0,0))):=hid ((b1.block _ (Array.getElem?_eq_some_iff.1 RV.out).1).trans RV.out)
 have HB1:Hid (Below w.heap.size w w1):=hid (HB.out.trans (b1.mono HB.out.size))
 clear b1
 go_wp2_with (refine wpList_store_row rfl 39 _ _ rfl w.heap.size vr rfl rfl 39 _ R1.out Ivr.out (by rw [Zvr.out];simp) Ovr.out ?_)
 refine bodyPost_ret (v:=.agg vr) (results_cell_row rfl _ _ w.heap.size 39 vr (0,0) _ rfl (setRow_heap _ _ _ _ _ _ R1.out) Tryz.underlying39 rfl Ivr.out) rfl ⟨rfl,below_setRow HB1.out _ _ (Nat.le_refl _)⟩
theorem refempty_any (w:World) :
 Calls Tryz.prog 83 #[] w fun ev w' => ev = .returned (hv (shaB [])) ∧ Below w.heap.size w w':=by
 obtain ⟨vr,evr,Hvr,Zvr,Ivr,Ovr⟩:=row_of (shaB []) (shaB_length _)
 obtain ⟨wv,hwv⟩:∃ y,w.alloc (.cells (List.replicate 32 (Value.int .u8 0)).toArray 39) = y:=⟨_,rfl⟩
 have HB:Hid (Below w.heap.size w wv):=hid (by rw [← hwv];exact (Below.refl _ _).alloc (Nat.le_refl _) _)
 have RV:Hid (wv.heap[w.heap.size]? = some (.cells (List.replicate 32 (Value.int .u8 0)).toArray 39 (0,0))):=hid (by rw [← hwv];exact heap_at _ _ _ rfl)
 have HWV:=hid hwv
 simp only [List.replicate,List.toArray] at HWV
 have EVR:=hid evr
 rw [evr]
 clear evr hwv
 go_enter Tryz.func83,Tryz.ntmps83
 go_upto_region 1 with fail
 rw [HWV.out]
 go_wp2_with fail
 refine (refsum_any ⟨#[]⟩ wv (by decide)).mono ?_
 rw [show bOf ⟨#[]⟩ = [] from rfl,EVR.out]
 rintro ev w1 ⟨rfl,b1⟩
 have R1:Hid (w1.heap[w.heap.size]? = some (.cells (List.replicate 32 (Value.int .u8 0)).toArray 39 (0,0))):=hid ((b1.block _ (Array.getElem?_eq_some_iff.1 RV.out).1).trans RV.out)
 have HB1:Hid (Below w.heap.size w w1):=hid (HB.out.trans (b1.mono HB.out.size))
 clear b1
 go_wp2_with (refine wpList_store_row rfl 39 _ _ rfl w.heap.size vr rfl rfl 39 _ R1.out Ivr.out (by rw [Zvr.out];simp) Ovr.out ?_)
 refine bodyPost_ret (v:=.agg vr) (results_cell_row rfl _ _ w.heap.size 39 vr (0,0) _ rfl (setRow_heap _ _ _ _ _ _ R1.out) Tryz.underlying39 rfl Ivr.out) rfl ⟨rfl,below_setRow HB1.out _ _ (Nat.le_refl _)⟩
theorem rbelow_any (n:Nat) (w:World) (h2:2 ≤ n) (hn:n ≤ 1048576):Calls Tryz.prog 84 #[.int .i64 (n:Int)] w fun ev w' => ev = .returned (.int .i64 (blw n:Int)) ∧ w = w':=by
 obtain ⟨x,hx⟩:∃ x:Int,(n:Int) = x:=⟨_,rfl⟩
 rw [hx]
 have x1:2 ≤ x:=by omega
 have x2:x ≤ 1048576:=by omega
 have HX:=hid hx
 clear hx h2 hn
 go_enter Tryz.func84,Tryz.ntmps84
 go_wp2
 go_loop [3] (fun i => ∃ (k:Int),1 ≤ k ∧ k < x ∧ i = .int .i64 k ∧ Hid (∃ e:Nat,k = ((2 ^ e:Nat):Int))) (fun i => (x - intOf i).toNat)
 case atStart => exact ⟨1,by omega,by omega,rfl,hid ⟨0,rfl⟩⟩
 case round =>
  obtain ⟨k,h1,hkx,rfl,HE⟩:=hrel
  by_cases hlt:2 * k < x
  ·have HE2:Hid (∃ e:Nat,2 * k = ((2 ^ e:Nat):Int)):=hid (by obtain ⟨e,he⟩:=HE.out;exact ⟨e+1,by rw [he,Nat.pow_succ];omega⟩)
   go_wp2
   go_round
   case rel => exact ⟨2 * k,by omega,by omega,by go_num,HE2⟩
   case measure => simp [intOf];omega
  ·have HF:Hid (k = (blw n:Int)):=hid (by
    obtain ⟨e,he⟩:=HE.out
    have:=blwI_eq (n:=x) he hkx (by omega)
    rw [this,← HX.out]
    unfold blwI
    rw [Int.toNat_natCast])
   go_wp2
   go_ret
   exact ⟨by rw [← HF.out];rfl,rfl⟩
theorem own_sin {w:World} {base:Nat} {A:Option Addr} {n cap:Nat} {l:List ByteArray} (h:w.ownsRow base 9 1 (.slice A n cap) n (l.map Value.string)) (hn:l.length = n) (hs:∀ s ∈ l,s.size ≤ 140737488355328) (h9:n ≤ 140737488355328):SIn w A n cap l:=by
 rcases h with ⟨h1,⟨h2,h3⟩ | ⟨g,c,cur,h2,h3,h4,h5,h6,h7,h8⟩⟩
 ·cases h2
  exact ⟨hn,Nat.le_refl _,by omega,hs,h9,.inl (List.length_eq_zero_iff.1 (by omega))⟩
 ·cases h2
  refine ⟨hn,h5,by unfold maxLen at h6;omega,hs,h9,.inr ⟨g,0,rfl,fun j v hj => ?_⟩⟩
  rw [Nat.zero_add,cell_of_row w g j _ 9 (0,0) h4]
  rw [← h8] at hj
  have hjn:j < n * 1:=by have:=(List.getElem?_eq_some_iff.1 hj).1;rw [List.length_take] at this;omega
  rw [List.getElem?_take_of_lt hjn] at hj
  simpa using hj
theorem sin_take {w:World} {A:Option Addr} {n c k:Nat} {l:List ByteArray} (h:SIn w A n c l) (hk:k ≤ n):SIn w A k c (l.take k):=by
 obtain ⟨h1,h2,h3,h4,h6,h5⟩:=h
 refine ⟨by rw [List.length_take];omega,by omega,h3,fun s hs => h4 s (List.mem_of_mem_take hs),by omega,?_⟩
 rcases h5 with rfl | ⟨g,o,rfl,h7⟩
 ·exact .inl (by simp)
 ·refine .inr ⟨g,o,rfl,fun j v hj => h7 j v ?_⟩
  rw [List.getElem?_map] at hj ⊢
  have hjk:j < k:=by
   rcases Nat.lt_or_ge j k with q | q
   ·exact q
   ·rw [List.getElem?_eq_none (by rw [List.length_take];omega)] at hj;cases hj
  rwa [List.getElem?_take_of_lt hjk] at hj
theorem sin_drop {w:World} {g o n c k:Nat} {l:List ByteArray} (h:SIn w (some ⟨g,o,none⟩) n c l) (hk:k ≤ n):SIn w (some ⟨g,o+k,none⟩) (n - k) (c - k) (l.drop k):=by
 obtain ⟨h1,h2,h3,h4,h6,h5⟩:=h
 refine ⟨by rw [List.length_drop];omega,by omega,by omega,fun s hs => h4 s (List.mem_of_mem_drop hs),by omega,?_⟩
 rcases h5 with rfl | ⟨g',o',e,h7⟩
 ·exact .inl (by simp)
 ·simp only [Option.some.injEq,Addr.mk.injEq,and_true] at e
  obtain ⟨rfl,rfl⟩:=e
  refine .inr ⟨g,o+k,rfl,fun j v hj => ?_⟩
  have:=h7 (k+j) v (by rw [List.getElem?_map] at hj ⊢;rwa [List.getElem?_drop] at hj)
  rwa [show o+k+j = o+(k+j) by omega]
def cutS (L:List ByteArray) (b n:Nat):List ByteArray:=(L.drop b).take n
theorem cutS_take (L:List ByteArray) (b n k:Nat) (h:k ≤ n):(cutS L b n).take k = cutS L b k:=by unfold cutS;rw [List.take_take];congr 1;omega
theorem cutS_drop (L:List ByteArray) (b n k:Nat) (h:k ≤ n):(cutS L b n).drop k = cutS L (b+k) (n - k):=by unfold cutS;rw [List.drop_take,List.drop_drop]
theorem cutS_len {L:List ByteArray} {b n:Nat} (h:b+n ≤ L.length):(cutS L b n).length = n:=by unfold cutS;rw [List.length_take,List.length_drop];omega
theorem cutS_at {L:List ByteArray} {b n i:Nat} (h:i < n):(cutS L b n)[i]? = L[b+i]?:=by unfold cutS;rw [List.getElem?_take_of_lt h,List.getElem?_drop]
theorem tree_none0 (L:List ByteArray) (b:Int):treeB L b b = shaB []:=by unfold treeB;rw [if_pos (by omega)]
theorem mth08_any (L:List ByteArray) (hL:LogOk L):∀ (f b n c:Nat) (A:Option Addr) (w:World),n ≤ f → b+n ≤ L.length → SIn w A n c (cutS L b n) →
 Calls Tryz.prog 45 #[.slice A n c] w fun ev w' => ev = .returned (hv (treeB L b (b+n:Nat))) ∧ Below w.heap.size w w':=by
 intro f
 induction f with
 | zero =>
  intro b n c A w hnf hbn hI
  obtain rfl:n = 0:=by omega
  have hem:=fun w' => refempty_any w'
  obtain ⟨vr,evr,Hvr,Zvr,Ivr,Ovr⟩:=row_of (shaB []) (shaB_length _)
  rw [Nat.add_zero,tree_none0,evr]
  rw [evr] at hem
  have HEM:=hid hem
  obtain ⟨wv,hwv⟩:∃ y,w.alloc (.cells (List.replicate 32 (Value.int .u8 0)).toArray 39) = y:=⟨_,rfl⟩
  have HB:Hid (Below w.heap.size w wv):=hid (by rw [← hwv];exact (Below.refl _ _).alloc (Nat.le_refl _) _)
  have RV:Hid (wv.heap[w.heap.size]? = some (.cells (List.replicate 32 (Value.int .u8 0)).toArray 39 (0,0))):=hid (by rw [← hwv];exact heap_at _ _ _ rfl)
  have HWV:=hid hwv
  simp only [List.replicate,List.toArray] at HWV
  clear hem evr hwv hI
  go_enter Tryz.func45,Tryz.ntmps45
  go_upto_region 1 with fail
  rw [HWV.out]
  go_wp2_with fail
  refine (HEM.out wv).mono ?_
  rintro ev w1 ⟨rfl,b1⟩
  have R1:Hid (w1.heap[w.heap.size]? = some (.cells (List.replicate 32 (Value.int .u8 0)).toArray 39 (0,0))):=hid ((b1.block _ (Array.getElem?_eq_some_iff.1 RV.out).1).trans RV.out)
  have HB1:Hid (Below w.heap.size w w1):=hid (HB.out.trans (b1.mono HB.out.size))
  clear b1
  go_wp2_with (refine wpList_store_row rfl 39 _ _ rfl w.heap.size vr rfl rfl 39 _ R1.out Ivr.out (by rw [Zvr.out];simp) Ovr.out ?_)
  refine bodyPost_ret (v:=.agg vr) (results_cell_row rfl _ _ w.heap.size 39 vr (0,0) _ rfl (setRow_heap _ _ _ _ _ _ R1.out) Tryz.underlying39 rfl Ivr.out) rfl ⟨rfl,below_setRow HB1.out _ _ (Nat.le_refl _)⟩
 | succ f ih =>
  intro b n c A w hnf hbn hI
  by_cases h0:n = 0
  ·subst h0;exact ih b 0 c A w (by omega) hbn hI
  ·have hn:=hL.1
   obtain ⟨wv,hwv⟩:∃ y,w.alloc (.cells (List.replicate 32 (Value.int .u8 0)).toArray 39) = y:=⟨_,rfl⟩
   have HB:Hid (Below w.heap.size w wv):=hid (by rw [← hwv];exact (Below.refl _ _).alloc (Nat.le_refl _) _)
   have RV:Hid (wv.heap[w.heap.size]? = some (.cells (List.replicate 32 (Value.int .u8 0)).toArray 39 (0,0))):=hid (by rw [← hwv];exact heap_at _ _ _ rfl)
   have HWV:=hid hwv
   simp only [List.replicate,List.toArray] at HWV
   have bv:Gr w wv:=HB.out
   have hwl:w.heap.size < wv.heap.size:=by rw [← hwv];simp
   have hnc:=hI.2.1
   obtain ⟨y,hy⟩:∃ y,(cutS L b n)[0]? = some y:=⟨_,List.getElem?_eq_getElem (by rw [cutS_len hbn];omega)⟩
   obtain ⟨g,o,rfl,cy,gl,ys⟩:=hI.at hy
   by_cases h1:n = 1
   ·subst h1
    have hgl:leafG L b = leafH y:=by
     rw [cutS_at (by omega)] at hy
     unfold leafG
     rw [Int.toNat_natCast,List.getD_eq_getElem?_getD,show b = b+0 from rfl,hy];rfl
    have e1:treeB L b (b+1:Nat) = leafH y:=by rw [tree_leaf L (by omega) (by omega),hgl]
    obtain ⟨vr,evr,Hvr,Zvr,Ivr,Ovr⟩:=row_of (leafH y) (leafH_length _)
    have HLF:Hid (∀ w',Calls Tryz.prog 30 #[.string y] w' fun ev w2 => ev = .returned (.agg vr) ∧ Below w'.heap.size w' w2):=hid (fun w' => by
     have:=refleaf_any y w' (by have:=hL.2 y (List.mem_of_mem_drop (List.mem_of_mem_take (List.mem_of_getElem? hy)));omega)
     rw [evr] at this;exact this)
    rw [e1,evr]
    rw [Nat.add_zero] at cy
    have cyv:=cell_below HB.out cy gl
    clear hy hgl e1 evr hwv hI ih gl cy ys
    go_enter Tryz.func45,Tryz.ntmps45
    go_upto_region 1 with fail
    rw [HWV.out]
    go_wp2_with fail
    refine (HLF.out wv).mono ?_
    rintro ev w1 ⟨rfl,b1⟩
    have R1:Hid (w1.heap[w.heap.size]? = some (.cells (List.replicate 32 (Value.int .u8 0)).toArray 39 (0,0))):=hid ((b1.block _ (Array.getElem?_eq_some_iff.1 RV.out).1).trans RV.out)
    have HB1:Hid (Below w.heap.size w w1):=hid (HB.out.trans (b1.mono HB.out.size))
    clear b1
    go_wp2_with (refine wpList_store_row rfl 39 _ _ rfl w.heap.size vr rfl rfl 39 _ R1.out Ivr.out (by rw [Zvr.out];simp) Ovr.out ?_)
    refine bodyPost_ret (v:=.agg vr) (results_cell_row rfl _ _ w.heap.size 39 vr (0,0) _ rfl (setRow_heap _ _ _ _ _ _ R1.out) Tryz.underlying39 rfl Ivr.out) rfl ⟨rfl,below_setRow HB1.out _ _ (Nat.le_refl _)⟩
   ·have hk1:=blw_lt (n:=n) (by omega)
    have hk0:=blw_pos n
    have hk2:=blw_dbl (n:=n) (by omega)
    have HHA:=hid (fun w' => rbelow_any n w' (by omega) (by omega))
    obtain ⟨k,hk⟩:∃ k,blw n = k:=⟨_,rfl⟩
    rw [hk] at hk1 hk0 hk2 HHA
    have hbk:blwI (((b+n:Nat):Int) - (b:Int)) = (k:Int):=by
     rw [show ((b+n:Nat):Int) - (b:Int) = (n:Int) by omega,← hk];unfold blwI;rw [Int.toNat_natCast]
    have e2:treeB L b (b+n:Nat) = nodeH (treeB L b (b+k:Nat)) (treeB L (b+k:Nat) (b+n:Nat)):=by
     rw [tree_node L (by omega) (by rw [pow2_64];omega),hbk]
     rw [show ((b:Int)+(k:Int)) = ((b+k:Nat):Int) by omega]
    have l1:=treeB_len L b (b+k:Nat)
    have l2:=treeB_len L (b+k:Nat) (b+n:Nat)
    have hI1:=sin_take hI (k:=k) (by omega)
    rw [cutS_take _ _ _ _ (by omega)] at hI1
    have hI2:=sin_drop hI (k:=k) (by omega)
    rw [cutS_drop _ _ _ _ (by omega)] at hI2
    have HI1:=hid hI1
    have HI2:=hid hI2
    have ih1:∀ w',Gr w w' → Calls Tryz.prog 45 #[.slice (some ⟨g,o,none⟩) k c] w' fun ev w2 => ev = .returned (hv (treeB L b (b+k:Nat))) ∧ Below w'.heap.size w' w2:=fun w' h => ih b k c _ w' (by omega) (by omega) (HI1.out.below h)
    have ih2:∀ w',Gr w w' → Calls Tryz.prog 45 #[.slice (some ⟨g,o+k,none⟩) (n - k) (c - k)] w' fun ev w2 => ev = .returned (hv (treeB L (b+k:Nat) (b+n:Nat))) ∧ Below w'.heap.size w' w2:=fun w' h => by
     have:=ih (b+k) (n - k) (c - k) _ w' (by omega) (by omega) (HI2.out.below h)
     rwa [show b+k+(n - k) = b+n by omega] at this
    obtain ⟨x1,hx1⟩:∃ x,treeB L b (b+k:Nat) = x:=⟨_,rfl⟩
    obtain ⟨x2,hx2⟩:∃ x,treeB L (b+k:Nat) (b+n:Nat) = x:=⟨_,rfl⟩
    rw [hx1] at ih1 l1 e2
    rw [hx2] at ih2 l2 e2
    obtain ⟨v1,ev1,Hv1,Zv1,Iv1,Ov1⟩:=row_of x1 l1
    obtain ⟨v2,ev2,Hv2,Zv2,Iv2,Ov2⟩:=row_of x2 l2
    obtain ⟨vr,evr,Hvr,Zvr,Ivr,Ovr⟩:=row_of (nodeH x1 x2) (nodeH_length _ _)
    have HVR:Hid (hv (treeB L b (b+n:Nat)) = .agg vr):=hid (by rw [e2];exact evr)
    have HNODE:Hid (∀ w',Gr w w' → Calls Tryz.prog 85 #[.agg v1,.agg v2] w' fun ev w2 => ev = .returned (.agg vr) ∧ Below w'.heap.size w' w2):=hid (fun w' h => by
     have:=refnode_any x1 x2 w' l1 l2
     rw [ev1,ev2,evr] at this;exact this)
    rw [ev1] at ih1
    rw [ev2] at ih2
    have IHB:=hid ih1
    have IHE:=hid ih2
    have i1:(k:Int) ≤ n:=by omega
    have i2:(n:Int) ≤ c:=by omega
    have i3:(k:Int) ≤ c:=by omega
    have i4:(0:Int) ≤ k:=by omega
    have t1:((n:Int) == 0) = false:=by simp;omega
    have t2:((n:Int) == 1) = false:=by simp;omega
    clear hy gl cy ys hwv hI ih hI1 hI2 ih1 ih2 hx1 hx2 l1 l2 e2 ev1 ev2 evr hbk hk hk2 h0 h1
    go_enter Tryz.func45,Tryz.ntmps45
    go_upto_region 1 with fail
    rw [HWV.out]
    go_wp2_with fail
    refine (HHA.out wv).mono ?_
    rintro ev w0 ⟨rfl,rfl⟩
    go_wp2_with fail
    refine wp_region_held_drew (S:=Gr w) (by kernel_rfl) (Gr.drew bv) (fun hHeld => ?_)
    refine tk (i:=0) (v:=?v1) rfl ?y1 ?r1
    case y1 => (intro w hSw;(try dsimp only at hSw);go_simp;(try with_reducible rfl))
    try simp only [pu]
    refine tk (i:=1) (v:=?v2) rfl ?y2 ?r2
    case y2 => (intro w hSw;(try dsimp only at hSw);go_simp;(try with_reducible rfl))
    try simp only [pu]
    refine tk (i:=2) (v:=?v3) rfl ?y3 ?r3
    case y3 => (intro w hSw;(try dsimp only at hSw);go_simp;(try with_reducible rfl))
    try simp only [pu]
    refine tk (i:=4) (v:=?v4) rfl ?y4 ?r4
    case y4 => (intro w hSw;(try dsimp only at hSw);go_simp;(try with_reducible rfl))
    try simp only [pu]
    refine tk (i:=5) (v:=?v5) rfl ?y5 ?r5
    case y5 => (intro w hSw;(try dsimp only at hSw);go_simp;(try with_reducible rfl))
    try simp only [pu]
    refine tk (i:=6) (v:=?v6) rfl ?y6 ?r6
    case y6 => (intro w hSw;(try dsimp only at hSw);go_simp;(try with_reducible rfl))
    try simp only [pu]
    refine wpAnyH_ready (rs:=[3]) (by kernel_rfl) (by simp) ?_
    refine AllReadyH.cons (i:=3) rfl (fun K2 hK2 => ?_) AllReadyH.nil
    go_simp
    go_at_call 45
    refine (IHB.out wv.drew (show Gr w wv.drew from (by repeat (first | exact Gr.refl _ | (refine Gr.step ?_ (by assumption)) | (refine Gr.alloc ?_ _) | (refine Gr.drew ?_))))).mono ?_
    rintro ev w101 ⟨rfl,b101⟩
    try go_wp2_with fail
    refine hK2.out _ _ (show Gr w _ from (by repeat (first | exact Gr.refl _ | (refine Gr.step ?_ (by assumption)) | (refine Gr.alloc ?_ _) | (refine Gr.drew ?_)))) (fun hHeld2 => ?_)
    clear hK2 K2
    try simp only [pu]
    refine wpAnyH_ready (rs:=[7]) (by kernel_rfl) (by simp) ?_
    refine AllReadyH.cons (i:=7) rfl (fun K2 hK2 => ?_) AllReadyH.nil
    go_simp
    go_at_call 45
    refine (IHE.out w101 (show Gr w w101 from (by repeat (first | exact Gr.refl _ | (refine Gr.step ?_ (by assumption)) | (refine Gr.alloc ?_ _) | (refine Gr.drew ?_))))).mono ?_
    rintro ev w102 ⟨rfl,b102⟩
    try go_wp2_with fail
    refine hK2.out _ _ (show Gr w _ from (by repeat (first | exact Gr.refl _ | (refine Gr.step ?_ (by assumption)) | (refine Gr.alloc ?_ _) | (refine Gr.drew ?_)))) (fun hHeld2 => ?_)
    clear hK2 K2
    try simp only [pu]
    refine wpAnyH_ready (rs:=[8]) (by kernel_rfl) (by simp) ?_
    refine AllReadyH.cons (i:=8) rfl (fun K2 hK2 => ?_) AllReadyH.nil
    go_simp
    go_at_call 85
    refine (HNODE.out w102 (show Gr w w102 from (by repeat (first | exact Gr.refl _ | (refine Gr.step ?_ (by assumption)) | (refine Gr.alloc ?_ _) | (refine Gr.drew ?_))))).mono ?_
    rintro ev w103 ⟨rfl,b103⟩
    try go_wp2_with fail
    refine hK2.out _ _ (show Gr w _ from (by repeat (first | exact Gr.refl _ | (refine Gr.step ?_ (by assumption)) | (refine Gr.alloc ?_ _) | (refine Gr.drew ?_)))) (fun hHeld2 => ?_)
    clear hK2 K2
    try simp only [pu]
    refine wpAnyH_ready (rs:=[9]) (by kernel_rfl) (by simp) ?_
    refine AllReadyH.cons (i:=9) rfl (fun K2 hK2 => ?_) AllReadyH.nil
    rw [if_pos (by rfl)]
    refine wp_store_row 39 _ _ rfl w.heap.size vr rfl rfl 39 _ (((show Gr wv w103 from (Gr.step (Gr.step (Gr.step (Gr.drew (Gr.refl _)) b101) b102) b103)).block _ hwl).trans RV.out) Ivr.out (by rw [Zvr.out];rfl) Ovr.out ?_
    refine hK2.out _ _ (show Gr w _ from below_setRow (show Gr w w103 from (by repeat (first | exact Gr.refl _ | (refine Gr.step ?_ (by assumption)) | (refine Gr.alloc ?_ _) | (refine Gr.drew ?_)))) _ _ (Nat.le_refl _)) (fun hHeld2 => ?_)
    clear hK2 K2
    try simp only [pu]
    refine wpAnyH_done (by kernel_rfl) ?_ _
    go_wp2
    refine bodyPost_ret (v:=.agg vr) (results_cell_row rfl _ _ w.heap.size 39 vr (0,0) _ rfl (setRow_heap _ _ _ _ _ _ (((show Gr wv w103 from (Gr.step (Gr.step (Gr.step (Gr.drew (Gr.refl _)) b101) b102) b103)).block _ hwl).trans RV.out)) Tryz.underlying39 rfl Ivr.out) rfl ⟨by rw [HVR.out],hHeld2⟩
/- cartularyref18.Half, Long, Steps, says: what a path says. No condition. -/
theorem half18 (n:Int) (w:World) (h2:2 ≤ n) (hn:n ≤ 9223372036854775808):Calls Tryz.prog 105 #[.int .u64 n] w fun ev w' => ev = .returned (.int .u64 (blwI n)) ∧ w = w':=by
 go_enter Tryz.func105,Tryz.ntmps105
 go_wp2
 go_loop [3] (fun i => ∃ (k:Int),1 ≤ k ∧ k < n ∧ i = .int .u64 k ∧ Hid (∃ e:Nat,k = ((2 ^ e:Nat):Int))) (fun i => (n - intOf i).toNat)
 case atStart => exact ⟨1,by omega,by omega,rfl,hid ⟨0,rfl⟩⟩
 case round =>
  obtain ⟨k,h1,hkx,rfl,HE⟩:=hrel
  by_cases hlt:k < n - k
  ·have HE2:Hid (∃ e:Nat,k * 2 = ((2 ^ e:Nat):Int)):=hid (by obtain ⟨e,he⟩:=HE.out;exact ⟨e+1,by rw [he,Nat.pow_succ];omega⟩)
   go_wp2
   go_round
   case rel => exact ⟨k * 2,by omega,by omega,by go_num,HE2⟩
   case measure => simp [intOf];omega
  ·have HF:Hid (k = blwI n):=hid (by
    obtain ⟨e,he⟩:=HE.out
    exact blwI_eq (n:=n) he hkx (by omega))
   go_wp2
   go_ret
   exact ⟨by rw [← HF.out];rfl,rfl⟩
theorem hin_take {w:World} {A:Option Addr} {n c k:Nat} {l:List (List UInt8)} (h:HIn w A n c l) (hk:k ≤ n):HIn w A k c (l.take k):=by
 obtain ⟨h1,h2,h3,h4,h5⟩:=h
 refine ⟨fun x hx => h1 x (List.mem_of_mem_take hx),by rw [List.length_take];omega,by omega,h4,?_⟩
 rcases h5 with rfl | ⟨g,o,rfl,h7⟩
 ·exact .inl (by simp)
 ·refine .inr ⟨g,o,rfl,fun j v hj => h7 j v ?_⟩
  have e:hashCells l = hashCells (l.take k) ++ hashCells (l.drop k):=by rw [← hashCells_append,List.take_append_drop]
  rw [e,List.getElem?_append_left (List.getElem?_eq_some_iff.1 hj).1];exact hj
/- cartularyref18.Root, Inclusion: what a path says that the root is; the fault. No condition. -/
theorem plain18 (k:Nat) (hk:k ≠ 0) (hk2:k < 100) (w:World):Calls Tryz.prog 47 #[.int .i64 (k:Int)] w fun ev w' => ev = .returned (faultV k) ∧ Below w.heap.size w w':=by
 unfold faultV
 rw [if_neg hk]
 have h0:((k:Int) == 0) = false:=by simp;exact hk
 have k1:(0:Int) ≤ k:=by omega
 have k2:(k:Int) < 100:=by omega
 go_enter Tryz.func47,Tryz.ntmps47
 go_wp2
 refine bodyPost_ret (v:=.agg #[.int .i64 (k:Int),.int .i64 (-1)]) (by simp [results,Tryz.results47,go_sem]) rfl ⟨rfl,?_⟩
 repeat (first | exact Below.refl _ _ | (refine below_drewN ?_) | (refine Below.drew ?_) | (refine Below.alloc ?_ (by simp;try omega) _) | (refine Below.setCell ?_ (by simp;try omega) _))
theorem zero_row:∃ vz:Array Value,hv zeroH = .agg vz ∧ Hid (vz = (List.replicate 32 (Value.int .u8 0)).toArray) ∧ Hid (vz.size = 32) ∧ Hid ((Tryz.prog.info? 39).map (·.size) = some vz.size) ∧ Hid (vz.all (·.oneCell') = true):=by
 refine ⟨_,zeroH_v,hid rfl,hid rfl,hid (by kernel_rfl),hid (by simp [List.replicate,Value.oneCell'])⟩
/- cartularyref18.Inclusion: the fault. No condition. -/
end Go.Proofs.YtpdkpdpkggepcaaGreatDoor
