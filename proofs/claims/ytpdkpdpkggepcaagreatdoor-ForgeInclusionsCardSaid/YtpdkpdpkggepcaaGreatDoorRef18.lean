import Derived.Test.YtpdkpdpkggepcaaGreatDoorMem
import Derived.Test.YtpdkpdpkggepcaaGreatDoorRefNode
import Derived.Test.YtpdkpdpkggepcaaGreatDoorForgeApi
import Derived.Test.YtpdkpdpkggepcaaGreatDoorNaiveTree
import Derived.Test.YtpdkpdpkggepcaaGreatDoorForgeClaim
import Derived.BigRegion
import Derived.Deep.DeepCutAuto
import Derived.Test.YtpdkpdpkggepcaaGreatDoorSpanPlain
import Derived.Test.YtpdkpdpkggepcaaGreatDoorShapePath
import Derived.Test.YtpdkpdpkggepcaaGreatDoorSameHashes
import Derived.Deep.MidRow
import Derived.Test.YtpdkpdpkggepcaaGreatDoorTwinHash
/- cartularyref05.LeafText, Leaf, Empty; cartularyref08.Below, MTH, Tree, Root: the tree of a log's stretch. No condition. -/
namespace Go.Proofs.YtpdkpdpkggepcaaGreatDoor
open Go.ChangeShapes Go.WideShapes Go.ChangeAt Go.RowKit
set_option linter.unusedVariables false
theorem leaftext_any (s:ByteArray) (w:World) (hs:s.size ≤ 99999999999):Calls Tryz.prog 63 #[.string s] w fun ev w' => (∃ t,ev = .returned (.string t) ∧ bOf t = 0 :: bOf s ∧ t.size ≤ 100000000000) ∧ w = w':=by
  have z0:ByteArray.size ⟨#[0]⟩ = 1:=rfl
  go_enter Tryz.func63,Tryz.ntmps63
  go_wp2
  go_ret
  refine ⟨⟨_,rfl,by simp [bOf],?_⟩,rfl⟩
  simp [z0];omega
set_option maxRecDepth 100000 in
theorem refleaf_any (s : ByteArray) (w : World) (hs : s.size ≤ 99999999999) :
    Calls Tryz.prog 30 #[.string s] w fun ev w' => ev = .returned (hv (leafH s)) ∧ Below w.heap.size w w':=by
  obtain ⟨vr,evr,Hvr,Zvr,Ivr,Ovr⟩:=row_of (leafH s) (leafH_length s)
  obtain ⟨wv,hwv⟩:∃ y,w.alloc (.cells (List.replicate 32 (Value.int .u8 0)).toArray 39) = y:=⟨_,rfl⟩
  have HB:Hid (Below w.heap.size w wv):=Lib.hid (by rw [← hwv];exact (Below.refl _ _).alloc (Nat.le_refl _) _)
  have RV:Hid (wv.heap[w.heap.size]? = some (.cells (List.replicate 32 (Value.int .u8 0)).toArray 39 (0,0))):=Lib.hid (by rw [← hwv];exact heap_at _ _ _ rfl)
  have HWV:=Lib.hid hwv
  simp only [List.replicate,List.toArray] at HWV
  have EVR:=Lib.hid evr
  rw [evr]
  clear evr hwv
  go_enter Tryz.func30,Tryz.ntmps30
  go_upto_region 1 with fail
  rw [HWV.out]
  go_wp2_with fail
  refine (leaftext_any s wv hs).mono ?_
  rintro ev w0 ⟨⟨t,rfl,ht,hts⟩,rfl⟩
  have HTT:=Lib.hid (And.intro ht hts)
  clear ht hts
  go_wp2_with fail
  refine (refsum_any t wv HTT.out.2).mono ?_
  rw [HTT.out.1,← leafH_eq,EVR.out]
  rintro ev w1 ⟨rfl,b1⟩
  have R1:Hid (w1.heap[w.heap.size]? = some (.cells (List.replicate 32 (Value.int .u8 0)).toArray 39 (0,0))):=Lib.hid ((b1.block _ (Array.getElem?_eq_some_iff.1 RV.out).1).trans RV.out)
  have HB1:Hid (Below w.heap.size w w1):=Lib.hid (HB.out.trans (b1.mono HB.out.size))
  clear b1
  go_wp2_with (refine wpList_store_row rfl 39 _ _ rfl w.heap.size vr rfl rfl 39 _ R1.out Ivr.out (by rw [Zvr.out];simp) Ovr.out ?_)
  refine bodyPost_ret (v:=.agg vr) (results_cell_row rfl _ _ w.heap.size 39 vr (0,0) _ rfl (setRow_heap _ _ _ _ _ _ R1.out) Tryz.underlying39 rfl Ivr.out) rfl ⟨rfl,below_setRow HB1.out _ _ (Nat.le_refl _)⟩
set_option maxRecDepth 100000 in
theorem refempty_any (w : World) :
    Calls Tryz.prog 83 #[] w fun ev w' => ev = .returned (hv (shaB [])) ∧ Below w.heap.size w w':=by
  obtain ⟨vr,evr,Hvr,Zvr,Ivr,Ovr⟩:=row_of (shaB []) (shaB_length _)
  obtain ⟨wv,hwv⟩:∃ y,w.alloc (.cells (List.replicate 32 (Value.int .u8 0)).toArray 39) = y:=⟨_,rfl⟩
  have HB:Hid (Below w.heap.size w wv):=Lib.hid (by rw [← hwv];exact (Below.refl _ _).alloc (Nat.le_refl _) _)
  have RV:Hid (wv.heap[w.heap.size]? = some (.cells (List.replicate 32 (Value.int .u8 0)).toArray 39 (0,0))):=Lib.hid (by rw [← hwv];exact heap_at _ _ _ rfl)
  have HWV:=Lib.hid hwv
  simp only [List.replicate,List.toArray] at HWV
  have EVR:=Lib.hid evr
  rw [evr]
  clear evr hwv
  go_enter Tryz.func83,Tryz.ntmps83
  go_upto_region 1 with fail
  rw [HWV.out]
  go_wp2_with fail
  refine (refsum_any ⟨#[]⟩ wv (by decide)).mono ?_
  rw [show bOf ⟨#[]⟩ = [] from rfl,EVR.out]
  rintro ev w1 ⟨rfl,b1⟩
  have R1:Hid (w1.heap[w.heap.size]? = some (.cells (List.replicate 32 (Value.int .u8 0)).toArray 39 (0,0))):=Lib.hid ((b1.block _ (Array.getElem?_eq_some_iff.1 RV.out).1).trans RV.out)
  have HB1:Hid (Below w.heap.size w w1):=Lib.hid (HB.out.trans (b1.mono HB.out.size))
  clear b1
  go_wp2_with (refine wpList_store_row rfl 39 _ _ rfl w.heap.size vr rfl rfl 39 _ R1.out Ivr.out (by rw [Zvr.out];simp) Ovr.out ?_)
  refine bodyPost_ret (v:=.agg vr) (results_cell_row rfl _ _ w.heap.size 39 vr (0,0) _ rfl (setRow_heap _ _ _ _ _ _ R1.out) Tryz.underlying39 rfl Ivr.out) rfl ⟨rfl,below_setRow HB1.out _ _ (Nat.le_refl _)⟩

theorem rbelow_any (n:Nat) (w:World) (h2:2 ≤ n) (hn:n ≤ 1048576):Calls Tryz.prog 84 #[.int .i64 (n:Int)] w fun ev w' => ev = .returned (.int .i64 (blw n:Int)) ∧ w = w':=by
  obtain ⟨x,hx⟩:∃ x:Int,(n:Int) = x:=⟨_,rfl⟩
  rw [hx]
  have x1:2 ≤ x:=by omega
  have x2:x ≤ 1048576:=by omega
  have HX:=Lib.hid hx
  clear hx h2 hn
  go_enter Tryz.func84,Tryz.ntmps84
  go_wp2
  go_loop [3] (fun i => ∃ (k:Int),1 ≤ k ∧ k < x ∧ i = .int .i64 k ∧ Hid (∃ e:Nat,k = ((2 ^ e:Nat):Int))) (fun i => (x - intOf i).toNat)
  case atStart => exact ⟨1,by omega,by omega,rfl,Lib.hid ⟨0,rfl⟩⟩
  case round =>
    obtain ⟨k,h1,hkx,rfl,HE⟩:=hrel
    by_cases hlt:2 * k < x
    · have HE2:Hid (∃ e:Nat,2 * k = ((2 ^ e:Nat):Int)):=Lib.hid (by obtain ⟨e,he⟩:=HE.out;exact ⟨e+1,by rw [he,Nat.pow_succ];omega⟩)
      go_wp2
      go_round
      case rel => exact ⟨2 * k,by omega,by omega,by go_num,HE2⟩
      case measure => simp [intOf];omega
    · have HF : Hid (k = (blw n : Int)) := Lib.hid (by
        obtain ⟨e,he⟩:=HE.out
        have:=blwI_eq (n:=x) he hkx (by omega)
        rw [this,← HX.out]
        unfold blwI
        rw [Int.toNat_natCast])
      go_wp2
      go_ret
      exact ⟨by rw [← HF.out];rfl,rfl⟩
theorem own_sin {w:World} {base:Nat} {A:Option Addr} {n cap:Nat} {l:List ByteArray} (h:w.ownsRow base 9 1 (.slice A n cap) n (l.map Value.string)) (hn:l.length = n) (hs:∀ s ∈ l,s.size ≤ 140737488355328) (h9:n ≤ 140737488355328):SIn w A n cap l:=by
  rcases h with ⟨h1,⟨h2,h3⟩ | ⟨g,c,cur,h2,h3,h4,h5,h6,h7,h8⟩⟩
  · cases h2
    exact ⟨hn,Nat.le_refl _,by omega,hs,h9,.inl (List.length_eq_zero_iff.1 (by omega))⟩
  · cases h2
    refine ⟨hn,h5,by unfold maxLen at h6;omega,hs,h9,.inr ⟨g,0,rfl,fun j v hj => ?_⟩⟩
    rw [Nat.zero_add,cell_of_row w g j _ 9 (0,0) h4]
    rw [← h8] at hj
    have hjn:j < n * 1:=by have:=(List.getElem?_eq_some_iff.1 hj).1;rw [List.length_take] at this;omega
    rw [List.getElem?_take_of_lt hjn] at hj
    simpa using hj
theorem sin_take {w:World} {A:Option Addr} {n c k:Nat} {l:List ByteArray} (h:SIn w A n c l) (hk:k ≤ n):SIn w A k c (l.take k):=by
  obtain ⟨h1,h2,h3,h4,h6,h5⟩:=h
  refine ⟨by rw [List.length_take];omega,by omega,h3,fun s hs => h4 s (List.mem_of_mem_take hs),by omega,?_⟩
  rcases h5 with rfl | ⟨g,o,rfl,h7⟩
  · exact .inl (by simp)
  · refine .inr ⟨g,o,rfl,fun j v hj => h7 j v ?_⟩
    rw [List.getElem?_map] at hj ⊢
    have hjk:j < k:=by
      rcases Nat.lt_or_ge j k with q | q
      · exact q
      · rw [List.getElem?_eq_none (by rw [List.length_take];omega)] at hj;cases hj
    rwa [List.getElem?_take_of_lt hjk] at hj
theorem sin_drop {w:World} {g o n c k:Nat} {l:List ByteArray} (h:SIn w (some ⟨g,o,none⟩) n c l) (hk:k ≤ n):SIn w (some ⟨g,o+k,none⟩) (n - k) (c - k) (l.drop k):=by
  obtain ⟨h1,h2,h3,h4,h6,h5⟩:=h
  refine ⟨by rw [List.length_drop];omega,by omega,by omega,fun s hs => h4 s (List.mem_of_mem_drop hs),by omega,?_⟩
  rcases h5 with rfl | ⟨g',o',e,h7⟩
  · exact .inl (by simp)
  · simp only [Option.some.injEq,Addr.mk.injEq,and_true] at e
    obtain ⟨rfl,rfl⟩:=e
    refine .inr ⟨g,o+k,rfl,fun j v hj => ?_⟩
    have:=h7 (k+j) v (by rw [List.getElem?_map] at hj ⊢;rwa [List.getElem?_drop] at hj)
    rwa [show o+k+j = o+(k+j) by omega]
/-- a stretch of a list of texts -/
def cutS (L:List ByteArray) (b n:Nat):List ByteArray:=(L.drop b).take n
theorem cutS_take (L:List ByteArray) (b n k:Nat) (h:k ≤ n):(cutS L b n).take k = cutS L b k:=by unfold cutS;rw [List.take_take];congr 1;omega
theorem cutS_drop (L:List ByteArray) (b n k:Nat) (h:k ≤ n):(cutS L b n).drop k = cutS L (b+k) (n - k):=by unfold cutS;rw [List.drop_take,List.drop_drop]
theorem cutS_len {L:List ByteArray} {b n:Nat} (h:b+n ≤ L.length):(cutS L b n).length = n:=by unfold cutS;rw [List.length_take,List.length_drop];omega
theorem cutS_at {L:List ByteArray} {b n i:Nat} (h:i < n):(cutS L b n)[i]? = L[b+i]?:=by unfold cutS;rw [List.getElem?_take_of_lt h,List.getElem?_drop]
theorem tree_none0 (L:List ByteArray) (b:Int):treeB L b b = shaB []:=by unfold treeB;rw [if_pos (by omega)]
set_option maxRecDepth 100000 in
set_option maxHeartbeats 8000000 in
theorem mth08_any (L : List ByteArray) (hL : LogOk L) : ∀ (f b n c : Nat) (A : Option Addr) (w : World), n ≤ f → b + n ≤ L.length → SIn w A n c (cutS L b n) →
    Calls Tryz.prog 45 #[.slice A n c] w fun ev w' => ev = .returned (hv (treeB L b (b+n:Nat))) ∧ Below w.heap.size w w':=by
  intro f
  induction f with
  | zero =>
    intro b n c A w hnf hbn hI
    obtain rfl:n = 0:=by omega
    have hem:=fun w' => refempty_any w'
    obtain ⟨vr,evr,Hvr,Zvr,Ivr,Ovr⟩:=row_of (shaB []) (shaB_length _)
    rw [Nat.add_zero,tree_none0,evr]
    rw [evr] at hem
    have HEM:=Lib.hid hem
    obtain ⟨wv,hwv⟩:∃ y,w.alloc (.cells (List.replicate 32 (Value.int .u8 0)).toArray 39) = y:=⟨_,rfl⟩
    have HB:Hid (Below w.heap.size w wv):=Lib.hid (by rw [← hwv];exact (Below.refl _ _).alloc (Nat.le_refl _) _)
    have RV:Hid (wv.heap[w.heap.size]? = some (.cells (List.replicate 32 (Value.int .u8 0)).toArray 39 (0,0))):=Lib.hid (by rw [← hwv];exact heap_at _ _ _ rfl)
    have HWV:=Lib.hid hwv
    simp only [List.replicate,List.toArray] at HWV
    clear hem evr hwv hI
    go_enter Tryz.func45,Tryz.ntmps45
    go_upto_region 1 with fail
    rw [HWV.out]
    go_wp2_with fail
    refine (HEM.out wv).mono ?_
    rintro ev w1 ⟨rfl,b1⟩
    have R1:Hid (w1.heap[w.heap.size]? = some (.cells (List.replicate 32 (Value.int .u8 0)).toArray 39 (0,0))):=Lib.hid ((b1.block _ (Array.getElem?_eq_some_iff.1 RV.out).1).trans RV.out)
    have HB1:Hid (Below w.heap.size w w1):=Lib.hid (HB.out.trans (b1.mono HB.out.size))
    clear b1
    go_wp2_with (refine wpList_store_row rfl 39 _ _ rfl w.heap.size vr rfl rfl 39 _ R1.out Ivr.out (by rw [Zvr.out];simp) Ovr.out ?_)
    refine bodyPost_ret (v:=.agg vr) (results_cell_row rfl _ _ w.heap.size 39 vr (0,0) _ rfl (setRow_heap _ _ _ _ _ _ R1.out) Tryz.underlying39 rfl Ivr.out) rfl ⟨rfl,below_setRow HB1.out _ _ (Nat.le_refl _)⟩
  | succ f ih =>
    intro b n c A w hnf hbn hI
    by_cases h0:n = 0
    · subst h0;exact ih b 0 c A w (by omega) hbn hI
    · have hn:=hL.1
      obtain ⟨wv,hwv⟩:∃ y,w.alloc (.cells (List.replicate 32 (Value.int .u8 0)).toArray 39) = y:=⟨_,rfl⟩
      have HB:Hid (Below w.heap.size w wv):=Lib.hid (by rw [← hwv];exact (Below.refl _ _).alloc (Nat.le_refl _) _)
      have RV:Hid (wv.heap[w.heap.size]? = some (.cells (List.replicate 32 (Value.int .u8 0)).toArray 39 (0,0))):=Lib.hid (by rw [← hwv];exact heap_at _ _ _ rfl)
      have HWV:=Lib.hid hwv
      simp only [List.replicate,List.toArray] at HWV
      have bv:Gr w wv:=HB.out
      have hwl:w.heap.size < wv.heap.size:=by rw [← hwv];simp
      have hnc:=hI.2.1
      obtain ⟨y,hy⟩:∃ y,(cutS L b n)[0]? = some y:=⟨_,List.getElem?_eq_getElem (by rw [cutS_len hbn];omega)⟩
      obtain ⟨g,o,rfl,cy,gl,ys⟩:=hI.at hy
      by_cases h1:n = 1
      · subst h1
        have hgl:leafG L b = leafH y:=by
          rw [cutS_at (by omega)] at hy
          unfold leafG
          rw [Int.toNat_natCast,List.getD_eq_getElem?_getD,show b = b+0 from rfl,hy];rfl
        have e1:treeB L b (b+1:Nat) = leafH y:=by rw [tree_leaf L (by omega) (by omega),hgl]
        obtain ⟨vr,evr,Hvr,Zvr,Ivr,Ovr⟩:=row_of (leafH y) (leafH_length _)
        have HLF:Hid (∀ w',Calls Tryz.prog 30 #[.string y] w' fun ev w2 => ev = .returned (.agg vr) ∧ Below w'.heap.size w' w2):=Lib.hid (fun w' => by
          have:=refleaf_any y w' (by have:=hL.2 y (List.mem_of_mem_drop (List.mem_of_mem_take (List.mem_of_getElem? hy)));omega)
          rw [evr] at this;exact this)
        rw [e1,evr]
        rw [Nat.add_zero] at cy
        have cyv:=cell_below HB.out cy gl
        clear hy hgl e1 evr hwv hI ih gl cy ys
        go_enter Tryz.func45,Tryz.ntmps45
        go_upto_region 1 with fail
        rw [HWV.out]
        go_wp2_with fail
        refine (HLF.out wv).mono ?_
        rintro ev w1 ⟨rfl,b1⟩
        have R1:Hid (w1.heap[w.heap.size]? = some (.cells (List.replicate 32 (Value.int .u8 0)).toArray 39 (0,0))):=Lib.hid ((b1.block _ (Array.getElem?_eq_some_iff.1 RV.out).1).trans RV.out)
        have HB1:Hid (Below w.heap.size w w1):=Lib.hid (HB.out.trans (b1.mono HB.out.size))
        clear b1
        go_wp2_with (refine wpList_store_row rfl 39 _ _ rfl w.heap.size vr rfl rfl 39 _ R1.out Ivr.out (by rw [Zvr.out];simp) Ovr.out ?_)
        refine bodyPost_ret (v:=.agg vr) (results_cell_row rfl _ _ w.heap.size 39 vr (0,0) _ rfl (setRow_heap _ _ _ _ _ _ R1.out) Tryz.underlying39 rfl Ivr.out) rfl ⟨rfl,below_setRow HB1.out _ _ (Nat.le_refl _)⟩
      · have hk1:=blw_lt (n:=n) (by omega)
        have hk0:=blw_pos n
        have hk2:=blw_dbl (n:=n) (by omega)
        have HHA:=Lib.hid (fun w' => rbelow_any n w' (by omega) (by omega))
        obtain ⟨k,hk⟩:∃ k,blw n = k:=⟨_,rfl⟩
        rw [hk] at hk1 hk0 hk2 HHA
        have hbk:blwI (((b+n:Nat):Int) - (b:Int)) = (k:Int):=by
          rw [show ((b+n:Nat):Int) - (b:Int) = (n:Int) by omega,← hk];unfold blwI;rw [Int.toNat_natCast]
        have e2:treeB L b (b+n:Nat) = nodeH (treeB L b (b+k:Nat)) (treeB L (b+k:Nat) (b+n:Nat)):=by
          rw [tree_node L (by omega) (by rw [pow2_64];omega),hbk]
          rw [show ((b:Int)+(k:Int)) = ((b+k:Nat):Int) by omega]
        have l1:=treeB_len L b (b+k:Nat)
        have l2:=treeB_len L (b+k:Nat) (b+n:Nat)
        have hI1:=sin_take hI (k:=k) (by omega)
        rw [cutS_take _ _ _ _ (by omega)] at hI1
        have hI2:=sin_drop hI (k:=k) (by omega)
        rw [cutS_drop _ _ _ _ (by omega)] at hI2
        have HI1:=Lib.hid hI1
        have HI2:=Lib.hid hI2
        have ih1:∀ w',Gr w w' → Calls Tryz.prog 45 #[.slice (some ⟨g,o,none⟩) k c] w' fun ev w2 => ev = .returned (hv (treeB L b (b+k:Nat))) ∧ Below w'.heap.size w' w2:=fun w' h => ih b k c _ w' (by omega) (by omega) (HI1.out.below h)
        have ih2:∀ w',Gr w w' → Calls Tryz.prog 45 #[.slice (some ⟨g,o+k,none⟩) (n - k) (c - k)] w' fun ev w2 => ev = .returned (hv (treeB L (b+k:Nat) (b+n:Nat))) ∧ Below w'.heap.size w' w2:=fun w' h => by
          have:=ih (b+k) (n - k) (c - k) _ w' (by omega) (by omega) (HI2.out.below h)
          rwa [show b+k+(n - k) = b+n by omega] at this
        obtain ⟨x1,hx1⟩:∃ x,treeB L b (b+k:Nat) = x:=⟨_,rfl⟩
        obtain ⟨x2,hx2⟩:∃ x,treeB L (b+k:Nat) (b+n:Nat) = x:=⟨_,rfl⟩
        rw [hx1] at ih1 l1 e2
        rw [hx2] at ih2 l2 e2
        obtain ⟨v1,ev1,Hv1,Zv1,Iv1,Ov1⟩:=row_of x1 l1
        obtain ⟨v2,ev2,Hv2,Zv2,Iv2,Ov2⟩:=row_of x2 l2
        obtain ⟨vr,evr,Hvr,Zvr,Ivr,Ovr⟩:=row_of (nodeH x1 x2) (nodeH_length _ _)
        have HVR:Hid (hv (treeB L b (b+n:Nat)) = .agg vr):=Lib.hid (by rw [e2];exact evr)
        have HNODE:Hid (∀ w',Gr w w' → Calls Tryz.prog 85 #[.agg v1,.agg v2] w' fun ev w2 => ev = .returned (.agg vr) ∧ Below w'.heap.size w' w2):=Lib.hid (fun w' h => by
          have:=refnode_any x1 x2 w' l1 l2
          rw [ev1,ev2,evr] at this;exact this)
        rw [ev1] at ih1
        rw [ev2] at ih2
        have IHB:=Lib.hid ih1
        have IHE:=Lib.hid ih2
        have i1:(k:Int) ≤ n:=by omega
        have i2:(n:Int) ≤ c:=by omega
        have i3:(k:Int) ≤ c:=by omega
        have i4:(0:Int) ≤ k:=by omega
        have t1:((n:Int) == 0) = false:=by simp;omega
        have t2:((n:Int) == 1) = false:=by simp;omega
        clear hy gl cy ys hwv hI ih hI1 hI2 ih1 ih2 hx1 hx2 l1 l2 e2 ev1 ev2 evr hbk hk hk2 h0 h1
        go_enter Tryz.func45,Tryz.ntmps45
        go_upto_region 1 with fail
        rw [HWV.out]
        go_wp2_with fail
        refine (HHA.out wv).mono ?_
        rintro ev w0 ⟨rfl,rfl⟩
        go_wp2_with fail
        refine wp_region_held_drew (S:=Gr w) (by kernel_rfl) (Gr.drew bv) (fun hHeld => ?_)
        refine tk (i:=0) (v:=?v1) rfl ?y1 ?r1
        case y1 => (intro w hSw;(try dsimp only at hSw);go_simp;(try with_reducible rfl))
        try simp only [pu]
        refine tk (i:=1) (v:=?v2) rfl ?y2 ?r2
        case y2 => (intro w hSw;(try dsimp only at hSw);go_simp;(try with_reducible rfl))
        try simp only [pu]
        refine tk (i:=2) (v:=?v3) rfl ?y3 ?r3
        case y3 => (intro w hSw;(try dsimp only at hSw);go_simp;(try with_reducible rfl))
        try simp only [pu]
        refine tk (i:=4) (v:=?v4) rfl ?y4 ?r4
        case y4 => (intro w hSw;(try dsimp only at hSw);go_simp;(try with_reducible rfl))
        try simp only [pu]
        refine tk (i:=5) (v:=?v5) rfl ?y5 ?r5
        case y5 => (intro w hSw;(try dsimp only at hSw);go_simp;(try with_reducible rfl))
        try simp only [pu]
        refine tk (i:=6) (v:=?v6) rfl ?y6 ?r6
        case y6 => (intro w hSw;(try dsimp only at hSw);go_simp;(try with_reducible rfl))
        try simp only [pu]
        refine wpAnyH_ready (rs:=[3]) (by kernel_rfl) (by simp) ?_
        refine AllReadyH.cons (i:=3) rfl (fun K2 hK2 => ?_) AllReadyH.nil
        go_simp
        go_at_call 45
        refine (IHB.out wv.drew (show Gr w wv.drew from (by repeat (first | exact Gr.refl _ | (refine Gr.step ?_ (by assumption)) | (refine Gr.alloc ?_ _) | (refine Gr.drew ?_))))).mono ?_
        rintro ev w101 ⟨rfl,b101⟩
        try go_wp2_with fail
        refine hK2.out _ _ (show Gr w _ from (by repeat (first | exact Gr.refl _ | (refine Gr.step ?_ (by assumption)) | (refine Gr.alloc ?_ _) | (refine Gr.drew ?_)))) (fun hHeld2 => ?_)
        clear hK2 K2
        try simp only [pu]
        refine wpAnyH_ready (rs:=[7]) (by kernel_rfl) (by simp) ?_
        refine AllReadyH.cons (i:=7) rfl (fun K2 hK2 => ?_) AllReadyH.nil
        go_simp
        go_at_call 45
        refine (IHE.out w101 (show Gr w w101 from (by repeat (first | exact Gr.refl _ | (refine Gr.step ?_ (by assumption)) | (refine Gr.alloc ?_ _) | (refine Gr.drew ?_))))).mono ?_
        rintro ev w102 ⟨rfl,b102⟩
        try go_wp2_with fail
        refine hK2.out _ _ (show Gr w _ from (by repeat (first | exact Gr.refl _ | (refine Gr.step ?_ (by assumption)) | (refine Gr.alloc ?_ _) | (refine Gr.drew ?_)))) (fun hHeld2 => ?_)
        clear hK2 K2
        try simp only [pu]
        refine wpAnyH_ready (rs:=[8]) (by kernel_rfl) (by simp) ?_
        refine AllReadyH.cons (i:=8) rfl (fun K2 hK2 => ?_) AllReadyH.nil
        go_simp
        go_at_call 85
        refine (HNODE.out w102 (show Gr w w102 from (by repeat (first | exact Gr.refl _ | (refine Gr.step ?_ (by assumption)) | (refine Gr.alloc ?_ _) | (refine Gr.drew ?_))))).mono ?_
        rintro ev w103 ⟨rfl,b103⟩
        try go_wp2_with fail
        refine hK2.out _ _ (show Gr w _ from (by repeat (first | exact Gr.refl _ | (refine Gr.step ?_ (by assumption)) | (refine Gr.alloc ?_ _) | (refine Gr.drew ?_)))) (fun hHeld2 => ?_)
        clear hK2 K2
        try simp only [pu]
        refine wpAnyH_ready (rs:=[9]) (by kernel_rfl) (by simp) ?_
        refine AllReadyH.cons (i:=9) rfl (fun K2 hK2 => ?_) AllReadyH.nil
        rw [if_pos (by rfl)]
        refine wp_store_row 39 _ _ rfl w.heap.size vr rfl rfl 39 _ (((show Gr wv w103 from (Gr.step (Gr.step (Gr.step (Gr.drew (Gr.refl _)) b101) b102) b103)).block _ hwl).trans RV.out) Ivr.out (by rw [Zvr.out];rfl) Ovr.out ?_
        refine hK2.out _ _ (show Gr w _ from below_setRow (show Gr w w103 from (by repeat (first | exact Gr.refl _ | (refine Gr.step ?_ (by assumption)) | (refine Gr.alloc ?_ _) | (refine Gr.drew ?_)))) _ _ (Nat.le_refl _)) (fun hHeld2 => ?_)
        clear hK2 K2
        try simp only [pu]
        refine wpAnyH_done (by kernel_rfl) ?_ _
        go_wp2
        refine bodyPost_ret (v:=.agg vr) (results_cell_row rfl _ _ w.heap.size 39 vr (0,0) _ rfl (setRow_heap _ _ _ _ _ _ (((show Gr wv w103 from (Gr.step (Gr.step (Gr.step (Gr.drew (Gr.refl _)) b101) b102) b103)).block _ hwl).trans RV.out)) Tryz.underlying39 rfl Ivr.out) rfl ⟨by rw [HVR.out],hHeld2⟩
end Go.Proofs.YtpdkpdpkggepcaaGreatDoor

/- cartularyref18.Half, Long, Steps, says: what a path says. No condition. -/
namespace Go.Proofs.YtpdkpdpkggepcaaGreatDoor
open Go.ChangeShapes Go.WideShapes Go.ChangeAt Go.RowKit
set_option linter.unusedVariables false
theorem half18 (n:Int) (w:World) (h2:2 ≤ n) (hn:n ≤ 9223372036854775808):Calls Tryz.prog 105 #[.int .u64 n] w fun ev w' => ev = .returned (.int .u64 (blwI n)) ∧ w = w':=by
  go_enter Tryz.func105,Tryz.ntmps105
  go_wp2
  go_loop [3] (fun i => ∃ (k:Int),1 ≤ k ∧ k < n ∧ i = .int .u64 k ∧ Hid (∃ e:Nat,k = ((2 ^ e:Nat):Int))) (fun i => (n - intOf i).toNat)
  case atStart => exact ⟨1,by omega,by omega,rfl,Lib.hid ⟨0,rfl⟩⟩
  case round =>
    obtain ⟨k,h1,hkx,rfl,HE⟩:=hrel
    by_cases hlt:k < n - k
    · have HE2:Hid (∃ e:Nat,k * 2 = ((2 ^ e:Nat):Int)):=Lib.hid (by obtain ⟨e,he⟩:=HE.out;exact ⟨e+1,by rw [he,Nat.pow_succ];omega⟩)
      go_wp2
      go_round
      case rel => exact ⟨k * 2,by omega,by omega,by go_num,HE2⟩
      case measure => simp [intOf];omega
    · have HF : Hid (k = blwI n) := Lib.hid (by
        obtain ⟨e,he⟩:=HE.out
        exact blwI_eq (n:=n) he hkx (by omega))
      go_wp2
      go_ret
      exact ⟨by rw [← HF.out];rfl,rfl⟩
theorem long18 (ix sz:Int) (w:World) (h0:0 ≤ ix) (h1:ix < sz) (h2:sz ≤ 9223372036854775808):Calls Tryz.prog 92 #[.int .u64 ix,.int .u64 sz] w fun ev w' => ev = .returned (.int .i64 (pathL 64 ix 0 sz).length) ∧ w = w':=by
  obtain ⟨N,hN⟩:∃ N,(pathL 64 ix 0 sz).length = N:=⟨_,rfl⟩
  have hN64:=pathL_len 64 ix 0 sz
  rw [hN] at hN64 ⊢
  have HN:=Lib.hid hN
  have HI:=Lib.hid h1
  clear hN
  go_enter Tryz.func92,Tryz.ntmps92
  go_wp2
  go_loop [0,1,5,6] (fun a s n k => ∃ (x y:Int) (j:Nat),a = .int .u64 x ∧ s = .int .u64 y ∧ n = .int .i64 j ∧ 0 ≤ x ∧ x < y ∧ y ≤ 9223372036854775808 ∧ j ≤ N ∧ Hid (∃ (f:Nat) (b e:Int),x = ix - b ∧ y = e - b ∧ e - b ≤ pow2 f ∧ f ≤ 64 ∧ b ≤ ix ∧ ix < e ∧ j+(pathL f ix b e).length = N)) (fun _ s _ _ => (intOf s).toNat)
  case atStart => exact ⟨ix,sz,0,rfl,rfl,rfl,h0,h1,h2,Nat.zero_le _,Lib.hid ⟨64,0,sz,by omega,by omega,by rw [pow2_64];omega,by omega,h0,h1,by rw [HN.out];omega⟩⟩
  case round =>
    obtain ⟨x,y,j,rfl,rfl,rfl,hx0,hxy,hy,hj,HP⟩:=hrel
    by_cases hy2:1 < y
    · have hb:=blwI_bd (n:=y) (by omega)
      have HBB:=Lib.hid hb
      obtain ⟨k,hk⟩:∃ k,blwI y = k:=⟨_,rfl⟩
      rw [hk] at hb
      have HK:=Lib.hid hk
      have hjN:j+1 ≤ N:=by
        obtain ⟨f,b,e,rfl,rfl,q1,q2,q3,q4,q5⟩:=HP.out
        cases f with
        | zero => rw [pow2_zero] at q1;omega
        | succ f => rw [pathL,if_neg (by omega)] at q5;split at q5 <;> (rw [List.length_append] at q5;simp at q5;omega)
      by_cases hlt:x < k
      · have HP2 : Hid (∃ (f : Nat) (b e : Int), x = ix - b ∧ k = e - b ∧ e - b ≤ pow2 f ∧ f ≤ 64 ∧ b ≤ ix ∧ ix < e ∧ j + 1 + (pathL f ix b e).length = N) := Lib.hid (by
          obtain ⟨f,b,e,rfl,rfl,q1,q2,q3,q4,q5⟩:=HP.out
          cases f with
          | zero => rw [pow2_zero] at q1;omega
          | succ f =>
            have hkp:=blwI_le_pow (n:=e - b) (f:=f) (by omega) q1
            rw [pathL,if_neg (by omega),HK.out,if_pos (by omega),List.length_append] at q5
            rw [HK.out] at hkp
            exact ⟨f,b,b+k,rfl,by omega,by omega,by omega,q3,by omega,by simp at q5;omega⟩)
        clear hk
        go_wp2_with fail
        refine (half18 y _ (by omega) hy).mono ?_
        rw [HK.out]
        rintro ev w' ⟨rfl,rfl⟩
        go_wp2
        go_round
        case rel => exact ⟨x,k,j+1,by go_num,by go_num,by go_num,hx0,hlt,by omega,hjN,HP2⟩
        case measure => simp [intOf];omega
      · have HP2 : Hid (∃ (f : Nat) (b e : Int), x - k = ix - b ∧ y - k = e - b ∧ e - b ≤ pow2 f ∧ f ≤ 64 ∧ b ≤ ix ∧ ix < e ∧ j + 1 + (pathL f ix b e).length = N) := Lib.hid (by
          obtain ⟨f,b,e,rfl,rfl,q1,q2,q3,q4,q5⟩:=HP.out
          cases f with
          | zero => rw [pow2_zero] at q1;omega
          | succ f =>
            have hkp:=blwI_le_pow (n:=e - b) (f:=f) (by omega) q1
            have hps:=pow2_succ f
            rw [pathL,if_neg (by omega),HK.out,if_neg (by omega),List.length_append] at q5
            rw [HK.out] at hkp
            have:=HBB.out
            rw [HK.out] at this
            exact ⟨f,b+k,e,by omega,by omega,by omega,by omega,by omega,q4,by simp at q5;omega⟩)
        clear hk
        go_wp2_with fail
        refine (half18 y _ (by omega) hy).mono ?_
        rw [HK.out]
        rintro ev w' ⟨rfl,rfl⟩
        go_wp2
        go_round
        case rel => exact ⟨x - k,y - k,j+1,by go_num,by go_num,by go_num,by omega,by omega,by omega,hjN,HP2⟩
        case measure => simp [intOf];omega
    · have HJ : Hid (j = N) := Lib.hid (by
        obtain ⟨f,b,e,rfl,rfl,q1,q2,q3,q4,q5⟩:=HP.out
        cases f with
        | zero => rw [pathL] at q5;simpa using q5
        | succ f => rw [pathL,if_pos (by omega)] at q5;simpa using q5)
      go_wp2
      go_ret
      exact ⟨by rw [← HJ.out];rfl,rfl⟩
theorem hin_take {w:World} {A:Option Addr} {n c k:Nat} {l:List (List UInt8)} (h:HIn w A n c l) (hk:k ≤ n):HIn w A k c (l.take k):=by
  obtain ⟨h1,h2,h3,h4,h5⟩:=h
  refine ⟨fun x hx => h1 x (List.mem_of_mem_take hx),by rw [List.length_take];omega,by omega,h4,?_⟩
  rcases h5 with rfl | ⟨g,o,rfl,h7⟩
  · exact .inl (by simp)
  · refine .inr ⟨g,o,rfl,fun j v hj => h7 j v ?_⟩
    have e:hashCells l = hashCells (l.take k) ++ hashCells (l.drop k):=by rw [← hashCells_append,List.take_append_drop]
    rw [e,List.getElem?_append_left (List.getElem?_eq_some_iff.1 hj).1];exact hj
theorem sayP_len {lf:List UInt8} (hlf:lf.length = 32):∀ {P:List (List UInt8)} (hP:H32 P) (f:Nat) (ix b e:Int),(sayP lf f ix b e P).length = 32:=by
  intro P hP f
  cases f with
  | zero => intro ix b e;exact hlf
  | succ f =>
    intro ix b e
    rw [sayP]
    split
    · exact hlf
    · split <;> exact nodeH_length _ _
set_option maxRecDepth 100000 in
set_option maxHeartbeats 4000000 in
theorem says18_leaf (ix : Int) (lf : List UInt8) (hlf : lf.length = 32) (b e : Int) (n c : Nat) (A : Option Addr) (w : World) (h : e - b < 2) (h1 : b ≤ ix) (h2 : ix < e) :
    Calls Tryz.prog 93 #[.int .u64 (ix - b),.int .u64 (e - b),hv lf,.slice A n c] w fun ev w' => ev = .returned (hv lf) ∧ Below w.heap.size w w':=by
  obtain ⟨vl,evl,Hvl,Zvl,Ivl,Ovl⟩:=row_of lf hlf
  have t1:(e - b == 1) = true:=by simp;omega
  obtain ⟨wv,hwv⟩:∃ y,(w.alloc (.cells vl 39)).alloc (.cells (List.replicate 32 (Value.int .u8 0)).toArray 39) = y:=⟨_,rfl⟩
  have HB:Hid (Below w.heap.size w wv):=Lib.hid (by rw [← hwv];exact ((Below.refl _ _).alloc (Nat.le_refl _) _).alloc (by simp) _)
  have HS1:Hid (w.heap.size+1 < wv.heap.size):=Lib.hid (by rw [← hwv];simp)
  have HS0:Hid (w.heap.size < wv.heap.size):=Lib.hid (by have:=HS1.out;omega)
  have RL:Hid (wv.heap[w.heap.size]? = some (.cells vl 39 (0,0))):=Lib.hid (by rw [← hwv,((Below.refl _ _).alloc (Nat.le_refl _) _).block _ (by simp)];exact heap_at _ _ _ rfl)
  have RV:Hid (wv.heap[w.heap.size+1]? = some (.cells (List.replicate 32 (Value.int .u8 0)).toArray 39 (0,0))):=Lib.hid (by rw [← hwv];exact heap_at _ _ _ (by simp))
  have HWV:=Lib.hid hwv
  simp only [List.replicate,List.toArray] at HWV
  rw [evl]
  clear evl hwv h h1 h2
  go_enter Tryz.func93,Tryz.ntmps93
  go_upto_region 1 with fail
  rw [HWV.out]
  go_wp2_with (first
    | (refine wpList_load_row rfl 39 _ rfl w.heap.size rfl 39 vl (0,0) _ RL.out Tryz.underlying39 rfl Ivl.out ?_)
    | (refine wpList_store_row rfl 39 _ _ rfl (w.heap.size+1) vl rfl rfl 39 _ RV.out Ivl.out (by rw [Zvl.out];simp) Ovl.out ?_))
  refine bodyPost_ret (v:=.agg vl) (results_cell_row rfl _ _ (w.heap.size+1) 39 vl (0,0) _ rfl (setRow_heap _ _ _ _ _ _ RV.out) Tryz.underlying39 rfl Ivl.out) rfl ⟨rfl,below_setRow HB.out _ _ (by omega)⟩
set_option maxRecDepth 100000 in
set_option maxHeartbeats 8000000 in
theorem says18 (ix : Int) (lf : List UInt8) (hlf : lf.length = 32) : ∀ (f : Nat) (b e : Int) (n c : Nat) (A : Option Addr) (P : List (List UInt8)) (w : World), 0 ≤ b → b ≤ ix → ix < e → e ≤ 9223372036854775808 → e - b ≤ pow2 f → f ≤ 64 → P.length = (pathL f ix b e).length → HIn w A n c P →
    Calls Tryz.prog 93 #[.int .u64 (ix - b),.int .u64 (e - b),hv lf,.slice A n c] w fun ev w' => ev = .returned (hv (sayP lf f ix b e P)) ∧ Below w.heap.size w w':=by
  obtain ⟨vl,evl,Hvl,Zvl,Ivl,Ovl⟩:=row_of lf hlf
  intro f
  induction f with
  | zero =>
    intro b e n c A P w hb0 h1 h2 h3 hp hf hl hI
    rw [pow2_zero] at hp
    exact says18_leaf ix lf hlf b e n c A w (by omega) h1 h2
  | succ f ih =>
    intro b e n c A P w hb0 h1 h2 h3 hp hf hl hI
    by_cases hs2:e - b < 2
    · rw [sayP,if_pos hs2]
      exact says18_leaf ix lf hlf b e n c A w hs2 h1 h2
    · have hk1:=blwI_bd (n:=e - b) (by omega)
      have hfu:=blwI_le_pow (n:=e - b) (f:=f) (by omega) hp
      have hps:=pow2_succ f
      have HHALF:=Lib.hid (fun w' => half18 (e - b) w' (by omega) (by omega))
      obtain ⟨k,hk⟩:∃ k,blwI (e - b) = k:=⟨_,rfl⟩
      rw [hk] at hk1 hfu HHALF
      obtain ⟨X,hXs⟩:∃ x,ix - b = x:=⟨_,rfl⟩
      obtain ⟨Y,hYs⟩:∃ x,e - b = x:=⟨_,rfl⟩
      have hX0:0 ≤ X:=by omega
      have hXY:X < Y:=by omega
      have hY:Y ≤ 9223372036854775808:=by omega
      have hkY:1 ≤ k ∧ k < Y:=by omega
      have t1:(Y == 1) = false:=by simp;omega
      rw [hYs] at HHALF
      rw [hXs,hYs]
      obtain ⟨wv,hwv⟩:∃ y,(w.alloc (.cells vl 39)).alloc (.cells (List.replicate 32 (Value.int .u8 0)).toArray 39) = y:=⟨_,rfl⟩
      have HB:Hid (Below w.heap.size w wv):=Lib.hid (by rw [← hwv];exact ((Below.refl _ _).alloc (Nat.le_refl _) _).alloc (by simp) _)
      have HS1:Hid (w.heap.size+1 < wv.heap.size):=Lib.hid (by rw [← hwv];simp)
      have HS0:Hid (w.heap.size < wv.heap.size):=Lib.hid (by have:=HS1.out;omega)
      have RL:Hid (wv.heap[w.heap.size]? = some (.cells vl 39 (0,0))):=Lib.hid (by rw [← hwv,((Below.refl _ _).alloc (Nat.le_refl _) _).block _ (by simp)];exact heap_at _ _ _ rfl)
      have RV:Hid (wv.heap[w.heap.size+1]? = some (.cells (List.replicate 32 (Value.int .u8 0)).toArray 39 (0,0))):=Lib.hid (by rw [← hwv];exact heap_at _ _ _ (by simp))
      have HWV:=Lib.hid hwv
      simp only [List.replicate,List.toArray] at HWV
      by_cases hlt:X < k
      · have hll : P.length = (pathL f ix (b) (b + k)).length + 1 := by
          rw [hl,pathL,if_neg hs2,hk,if_pos (by omega),List.length_append];rfl
        obtain ⟨P',q,rfl,hl'⟩:=snoc_of hll
        have hm1:(P' ++ [q]).length = n:=hI.2.1
        rw [List.length_append] at hm1
        obtain ⟨m,hm⟩:∃ m,P'.length = m:=⟨_,rfl⟩
        have hnm:n = m+1:=by simp at hm1;omega
        have hI1:=hin_take hI (k:=m) (by omega)
        rw [List.take_append_of_le_length (by omega),List.take_of_length_le (by omega)] at hI1
        obtain ⟨g,o,rfl,gl,rq,ql⟩:=hI.row (k:=m) (x:=q) (by rw [List.getElem?_append_right (by omega),hm,Nat.sub_self];rfl)
        have HI1:=Lib.hid hI1
        have hsay:∀ w',But (fun k => k = w.heap.size+1) wv w' → Calls Tryz.prog 93 #[.int .u64 X,.int .u64 k,hv lf,.slice (some ⟨g,o,none⟩) m c] w' fun ev w2 => ev = .returned (hv (sayP lf f ix (b) (b+k) P')) ∧ Below w'.heap.size w' w2:=fun w' h => by
          have:=ih (b) (b+k) m c (some ⟨g,o,none⟩) P' w' (by omega) (by omega) (by omega) (by omega) (by omega) (by omega) hl' (HI1.out.below (HB.out.trans (h.to_below HB.out.size (fun k hk q => by omega))))
          rwa [show ix - b = X by omega,show b+k - b = k by omega] at this
        have l1:(sayP lf f ix (b) (b+k) P').length = 32:=sayP_len hlf (fun z hz => hI.1 z (by simp [hz])) _ _ _ _
        have hQ:sayP lf (f+1) ix b e (P' ++ [q]) = nodeH (sayP lf f ix b (b+k) P') q:=by
          rw [sayP,if_neg hs2,hk,if_pos (by omega),List.dropLast_concat,last_snoc]
        obtain ⟨x1,hx1⟩:∃ x,sayP lf f ix (b) (b+k) P' = x:=⟨_,rfl⟩
        rw [hx1] at hsay l1 hQ
        obtain ⟨v1,ev1,Hv1,Zv1,Iv1,Ov1⟩:=row_of x1 l1
        obtain ⟨vq,evq,Hvq,Zvq,Ivq,Ovq⟩:=row_of q ql
        obtain ⟨vr,evr,Hvr,Zvr,Ivr,Ovr⟩:=row_of (nodeH x1 q) (nodeH_length _ _)
        obtain ⟨pq,hpq⟩:∃ z,bytesV q = z:=⟨_,rfl⟩
        have HPV:Hid (pq.toArray = vq):=Lib.hid (by rw [← hpq];exact Hvq.out)
        have HIQ:Hid ((Tryz.prog.info? 39).map (·.size) = some pq.length):=Lib.hid (by rw [← hpq,bytesV_length,ql];kernel_rfl)
        have KQ:Hid (∀ w',But (fun k => k = w.heap.size+1) wv w' → w'.rangeAt g (o+m * 32) pq):=Lib.hid (fun w' h => by rw [← hpq];exact rangeAt_below (HB.out.trans (h.to_below HB.out.size (fun k hk q => by omega))) rq gl)
        have HNODE:Hid (∀ w',Calls Tryz.prog 85 #[.agg v1,.agg pq.toArray] w' fun ev w2 => ev = .returned (.agg vr) ∧ Below w'.heap.size w' w2):=Lib.hid (fun w' => by
          have:=refnode_any x1 q w' l1 ql
          rw [ev1,evq,evr] at this
          rw [HPV.out];exact this)
        rw [ev1,evl] at hsay
        have HSAY:=Lib.hid hsay
        rw [hQ,evr,evl]
        have hnc:=hI.2.2.1
        have h64:=hI.2.2.2.1
        have k1:(m:Int) ≤ c:=by omega
        have k2:(m:Int) < n:=by omega
        have k3:(0:Int) ≤ m:=by omega
        have k4:IntKind.i64.wrap ((n:Int) - 1) = m:=by rw [IntWalk.i64_in _ (by omega)];omega
        have k5:(n:Int) - 1 = m:=by omega
        have k6:m ≤ c:=by omega
        have k7:m < n:=by omega
        have k10:m ≤ 64:=by have:=pathL_len f ix (b) (b+k);omega
        have k11:(m:Int) ≤ 64:=by omega
        clear hl hll hl' hm1 hm hnm hI hI1 gl rq ql hsay l1 hQ hx1 ev1 evq evr hpq hwv hnc h64 hp ih hXs hYs hfu
        go_enter Tryz.func93,Tryz.ntmps93
        go_upto_region 1 with fail
        rw [HWV.out]
        go_wp2_with fail
        refine (HHALF.out wv).mono ?_
        rintro ev w0 ⟨rfl,rfl⟩
        go_wp2_with fail
        refine wp_region_held_drew (S:=But (fun k => k = w.heap.size+1) wv) (by kernel_rfl) (But.refl _ _).drew (fun hHeld => ?_)
        refine tk (i:=0) (v:=?v1) rfl ?y1 ?r1
        case y1 => (intro w hSw;(try dsimp only at hSw);go_simp;(try with_reducible rfl))
        try simp only [pu]
        refine tk (i:=1) (v:=?v2) rfl ?y2 ?r2
        case y2 => (intro w hSw;(try dsimp only at hSw);go_simp;(try with_reducible rfl))
        try simp only [pu]
        refine tw (i:=2) rfl (yieldsIf_load_row (by rfl) 39 _ (by rfl) w.heap.size (by rfl) 39 vl (0,0) _ (fun w h => (But.same h _ HS0.out (by omega)).trans RL.out) Tryz.underlying39 rfl Ivl.out) ?_
        try simp only [pu]
        refine tk (i:=3) (v:=?v4) rfl ?y4 ?r4
        case y4 => (intro w hSw;(try dsimp only at hSw);go_simp;(try with_reducible rfl))
        try simp only [pu]
        refine tk (i:=4) (v:=?v5) rfl ?y5 ?r5
        case y5 => (intro w hSw;(try dsimp only at hSw);go_simp;(try with_reducible rfl))
        try simp only [pu]
        refine tk (i:=5) (v:=?v6) rfl ?y6 ?r6
        case y6 => (intro w hSw;(try dsimp only at hSw);go_simp;(try with_reducible rfl))
        try simp only [pu]
        refine tk (i:=7) (v:=?v7) rfl ?y7 ?r7
        case y7 => (intro w hSw;(try dsimp only at hSw);go_simp;(try with_reducible rfl))
        try simp only [pu]
        refine tk (i:=8) (v:=?v8) rfl ?y8 ?r8
        case y8 => (intro w hSw;(try dsimp only at hSw);go_simp;(try with_reducible rfl))
        try simp only [pu]
        refine tk (i:=9) (v:=?v9) rfl ?y9 ?r9
        case y9 => (intro w hSw;(try dsimp only at hSw);go_simp;(try with_reducible rfl))
        try simp only [pu]
        refine tw (i:=10) rfl (yieldsIf_load_mid (by rfl) 39 _ (by rfl) g (o+m * 32) (by first | rfl | simp) pq _ (fun w h => KQ.out w h) Tryz.underlying39 (by rfl) HIQ.out) ?_
        try simp only [pu]
        refine wpAnyH_ready (rs:=[6]) (by kernel_rfl) (by simp) ?_
        refine AllReadyH.cons (i:=6) rfl (fun K2 hK2 => ?_) AllReadyH.nil
        go_simp
        go_at_call 93
        refine (HSAY.out wv.drew ((But.refl (fun k => k = w.heap.size+1) wv).drew)).mono ?_
        rintro ev w701 ⟨rfl,bw701⟩
        try go_wp2_with fail
        have Kw701:Hid (But (fun k => k = w.heap.size+1) wv w701):=Lib.hid (((But.refl (fun k => k = w.heap.size+1) wv).drew).below bw701)
        have Tw701_0:=Lib.hid ((bw701.block _ (Array.getElem?_eq_some_iff.1 (show wv.drew.heap[(w.heap.size+1)]? = _ from RV.out)).1).trans (show wv.drew.heap[(w.heap.size+1)]? = _ from RV.out))
        clear bw701
        refine hK2.out _ _ Kw701.out (fun hHeld2 => ?_)
        clear hK2 K2
        try simp only [pu]
        refine wpAnyH_ready (rs:=[11]) (by kernel_rfl) (by simp) ?_
        refine AllReadyH.cons (i:=11) rfl (fun K2 hK2 => ?_) AllReadyH.nil
        go_simp
        go_at_call 85
        refine (HNODE.out w701).mono ?_
        rintro ev w702 ⟨rfl,bw702⟩
        try go_wp2_with fail
        have Kw702:Hid (But (fun k => k = w.heap.size+1) wv w702):=Lib.hid (Kw701.out.below bw702)
        have Tw702_0:=Lib.hid ((bw702.block _ (Array.getElem?_eq_some_iff.1 Tw701_0.out).1).trans Tw701_0.out)
        clear bw702
        refine hK2.out _ _ Kw702.out (fun hHeld2 => ?_)
        clear hK2 K2
        try simp only [pu]
        refine wpAnyH_ready (rs:=[12]) (by kernel_rfl) (by simp) ?_
        refine AllReadyH.cons (i:=12) rfl (fun K2 hK2 => ?_) AllReadyH.nil
        rw [if_pos (by rfl)]
        refine wp_store_row 39 _ _ rfl (w.heap.size+1) vr rfl rfl 39 _ Tw702_0.out Ivr.out (by rw [Zvr.out];rfl) Ovr.out ?_
        obtain ⟨w703,hw703⟩:∃ x,w702.setRow (w.heap.size+1) vr = x:=⟨_,rfl⟩
        have Kw703:Hid (But (fun k => k = w.heap.size+1) wv w703):=Lib.hid (by rw [← hw703];exact But.setRow Kw702.out (w.heap.size+1) vr (fun _ => rfl))
        have Tw703_0:Hid (w703.heap[(w.heap.size+1)]? = some (.cells vr 39 (0,0))):=Lib.hid (by rw [← hw703];exact setRow_heap _ _ _ _ _ _ Tw702_0.out)
        rw [hw703]
        clear hw703
        refine hK2.out _ _ Kw703.out (fun hHeld2 => ?_)
        clear hK2 K2
        try simp only [pu]
        refine wpAnyH_done (by kernel_rfl) ?_ _
        go_wp2
        refine bodyPost_ret (v:=.agg vr) (results_cell_row rfl _ _ (w.heap.size+1) 39 vr (0,0) _ rfl Tw703_0.out Tryz.underlying39 rfl Ivr.out) rfl ⟨rfl,HB.out.trans (But.to_below Kw703.out HB.out.size (fun k hk q => by omega))⟩
      · have hll : P.length = (pathL f ix (b + k) (e)).length + 1 := by
          rw [hl,pathL,if_neg hs2,hk,if_neg (by omega),List.length_append];rfl
        obtain ⟨P',q,rfl,hl'⟩:=snoc_of hll
        have hm1:(P' ++ [q]).length = n:=hI.2.1
        rw [List.length_append] at hm1
        obtain ⟨m,hm⟩:∃ m,P'.length = m:=⟨_,rfl⟩
        have hnm:n = m+1:=by simp at hm1;omega
        have hI1:=hin_take hI (k:=m) (by omega)
        rw [List.take_append_of_le_length (by omega),List.take_of_length_le (by omega)] at hI1
        obtain ⟨g,o,rfl,gl,rq,ql⟩:=hI.row (k:=m) (x:=q) (by rw [List.getElem?_append_right (by omega),hm,Nat.sub_self];rfl)
        have HI1:=Lib.hid hI1
        have hsay:∀ w',But (fun k => k = w.heap.size+1) wv w' → Calls Tryz.prog 93 #[.int .u64 (X - k),.int .u64 (Y - k),hv lf,.slice (some ⟨g,o,none⟩) m c] w' fun ev w2 => ev = .returned (hv (sayP lf f ix (b+k) (e) P')) ∧ Below w'.heap.size w' w2:=fun w' h => by
          have:=ih (b+k) (e) m c (some ⟨g,o,none⟩) P' w' (by omega) (by omega) (by omega) (by omega) (by omega) (by omega) hl' (HI1.out.below (HB.out.trans (h.to_below HB.out.size (fun k hk q => by omega))))
          rwa [show ix - (b+k) = X - k by omega,show e - (b+k) = Y - k by omega] at this
        have l1:(sayP lf f ix (b+k) (e) P').length = 32:=sayP_len hlf (fun z hz => hI.1 z (by simp [hz])) _ _ _ _
        have hQ:sayP lf (f+1) ix b e (P' ++ [q]) = nodeH q (sayP lf f ix (b+k) e P'):=by
          rw [sayP,if_neg hs2,hk,if_neg (by omega),List.dropLast_concat,last_snoc]
        obtain ⟨x1,hx1⟩:∃ x,sayP lf f ix (b+k) (e) P' = x:=⟨_,rfl⟩
        rw [hx1] at hsay l1 hQ
        obtain ⟨v1,ev1,Hv1,Zv1,Iv1,Ov1⟩:=row_of x1 l1
        obtain ⟨vq,evq,Hvq,Zvq,Ivq,Ovq⟩:=row_of q ql
        obtain ⟨vr,evr,Hvr,Zvr,Ivr,Ovr⟩:=row_of (nodeH q x1) (nodeH_length _ _)
        obtain ⟨pq,hpq⟩:∃ z,bytesV q = z:=⟨_,rfl⟩
        have HPV:Hid (pq.toArray = vq):=Lib.hid (by rw [← hpq];exact Hvq.out)
        have HIQ:Hid ((Tryz.prog.info? 39).map (·.size) = some pq.length):=Lib.hid (by rw [← hpq,bytesV_length,ql];kernel_rfl)
        have KQ:Hid (∀ w',But (fun k => k = w.heap.size+1) wv w' → w'.rangeAt g (o+m * 32) pq):=Lib.hid (fun w' h => by rw [← hpq];exact rangeAt_below (HB.out.trans (h.to_below HB.out.size (fun k hk q => by omega))) rq gl)
        have HNODE:Hid (∀ w',Calls Tryz.prog 85 #[.agg pq.toArray,.agg v1] w' fun ev w2 => ev = .returned (.agg vr) ∧ Below w'.heap.size w' w2):=Lib.hid (fun w' => by
          have:=refnode_any q x1 w' ql l1
          rw [ev1,evq,evr] at this
          rw [HPV.out];exact this)
        rw [ev1,evl] at hsay
        have HSAY:=Lib.hid hsay
        rw [hQ,evr,evl]
        have hnc:=hI.2.2.1
        have h64:=hI.2.2.2.1
        have k1:(m:Int) ≤ c:=by omega
        have k2:(m:Int) < n:=by omega
        have k3:(0:Int) ≤ m:=by omega
        have k4:IntKind.i64.wrap ((n:Int) - 1) = m:=by rw [IntWalk.i64_in _ (by omega)];omega
        have k5:(n:Int) - 1 = m:=by omega
        have k6:m ≤ c:=by omega
        have k7:m < n:=by omega
        have k10:m ≤ 64:=by have:=pathL_len f ix (b+k) (e);omega
        have k11:(m:Int) ≤ 64:=by omega
        have k8:IntKind.u64.wrap (X - k) = X - k:=IntWalk.u64_in _ (by omega)
        have k9:IntKind.u64.wrap (Y - k) = Y - k:=IntWalk.u64_in _ (by omega)
        clear hl hll hl' hm1 hm hnm hI hI1 gl rq ql hsay l1 hQ hx1 ev1 evq evr hpq hwv hnc h64 hp ih hXs hYs hfu
        go_enter Tryz.func93,Tryz.ntmps93
        go_upto_region 1 with fail
        rw [HWV.out]
        go_wp2_with fail
        refine (HHALF.out wv).mono ?_
        rintro ev w0 ⟨rfl,rfl⟩
        go_wp2_with fail
        refine wp_region_held_drew (S:=But (fun k => k = w.heap.size+1) wv) (by kernel_rfl) (But.refl _ _).drew (fun hHeld => ?_)
        refine tk (i:=0) (v:=?v11) rfl ?y11 ?r11
        case y11 => (intro w hSw;(try dsimp only at hSw);go_simp;(try with_reducible rfl))
        try simp only [pu]
        refine tk (i:=1) (v:=?v12) rfl ?y12 ?r12
        case y12 => (intro w hSw;(try dsimp only at hSw);go_simp;(try with_reducible rfl))
        try simp only [pu]
        refine tk (i:=2) (v:=?v13) rfl ?y13 ?r13
        case y13 => (intro w hSw;(try dsimp only at hSw);go_simp;(try with_reducible rfl))
        try simp only [pu]
        refine tw (i:=3) rfl (yieldsIf_load_mid (by rfl) 39 _ (by rfl) g (o+m * 32) (by first | rfl | simp) pq _ (fun w h => KQ.out w h) Tryz.underlying39 (by rfl) HIQ.out) ?_
        try simp only [pu]
        refine tk (i:=4) (v:=?v15) rfl ?y15 ?r15
        case y15 => (intro w hSw;(try dsimp only at hSw);go_simp;(try with_reducible rfl))
        try simp only [pu]
        refine tk (i:=5) (v:=?v16) rfl ?y16 ?r16
        case y16 => (intro w hSw;(try dsimp only at hSw);go_simp;(try with_reducible rfl))
        try simp only [pu]
        refine tk (i:=6) (v:=?v17) rfl ?y17 ?r17
        case y17 => (intro w hSw;(try dsimp only at hSw);go_simp;(try with_reducible rfl))
        try simp only [pu]
        refine tk (i:=7) (v:=?v18) rfl ?y18 ?r18
        case y18 => (intro w hSw;(try dsimp only at hSw);go_simp;(try with_reducible rfl))
        try simp only [pu]
        refine tk (i:=8) (v:=?v19) rfl ?y19 ?r19
        case y19 => (intro w hSw;(try dsimp only at hSw);go_simp;(try with_reducible rfl))
        try simp only [pu]
        refine tk (i:=9) (v:=?v20) rfl ?y20 ?r20
        case y20 => (intro w hSw;(try dsimp only at hSw);go_simp;(try with_reducible rfl))
        try simp only [pu]
        refine tw (i:=10) rfl (yieldsIf_load_row (by rfl) 39 _ (by rfl) w.heap.size (by rfl) 39 vl (0,0) _ (fun w h => (But.same h _ HS0.out (by omega)).trans RL.out) Tryz.underlying39 rfl Ivl.out) ?_
        try simp only [pu]
        refine tk (i:=11) (v:=?v22) rfl ?y22 ?r22
        case y22 => (intro w hSw;(try dsimp only at hSw);go_simp;(try with_reducible rfl))
        try simp only [pu]
        refine tk (i:=12) (v:=?v23) rfl ?y23 ?r23
        case y23 => (intro w hSw;(try dsimp only at hSw);go_simp;(try with_reducible rfl))
        try simp only [pu]
        refine tk (i:=13) (v:=?v24) rfl ?y24 ?r24
        case y24 => (intro w hSw;(try dsimp only at hSw);go_simp;(try with_reducible rfl))
        try simp only [pu]
        refine wpAnyH_ready (rs:=[14]) (by kernel_rfl) (by simp) ?_
        refine AllReadyH.cons (i:=14) rfl (fun K2 hK2 => ?_) AllReadyH.nil
        go_simp
        go_at_call 93
        refine (HSAY.out wv.drew ((But.refl (fun k => k = w.heap.size+1) wv).drew)).mono ?_
        rintro ev w704 ⟨rfl,bw704⟩
        try go_wp2_with fail
        have Kw704:Hid (But (fun k => k = w.heap.size+1) wv w704):=Lib.hid (((But.refl (fun k => k = w.heap.size+1) wv).drew).below bw704)
        have Tw704_0:=Lib.hid ((bw704.block _ (Array.getElem?_eq_some_iff.1 (show wv.drew.heap[(w.heap.size+1)]? = _ from RV.out)).1).trans (show wv.drew.heap[(w.heap.size+1)]? = _ from RV.out))
        clear bw704
        refine hK2.out _ _ Kw704.out (fun hHeld2 => ?_)
        clear hK2 K2
        try simp only [pu]
        refine wpAnyH_ready (rs:=[15]) (by kernel_rfl) (by simp) ?_
        refine AllReadyH.cons (i:=15) rfl (fun K2 hK2 => ?_) AllReadyH.nil
        go_simp
        go_at_call 85
        refine (HNODE.out w704).mono ?_
        rintro ev w705 ⟨rfl,bw705⟩
        try go_wp2_with fail
        have Kw705:Hid (But (fun k => k = w.heap.size+1) wv w705):=Lib.hid (Kw704.out.below bw705)
        have Tw705_0:=Lib.hid ((bw705.block _ (Array.getElem?_eq_some_iff.1 Tw704_0.out).1).trans Tw704_0.out)
        clear bw705
        refine hK2.out _ _ Kw705.out (fun hHeld2 => ?_)
        clear hK2 K2
        try simp only [pu]
        refine wpAnyH_ready (rs:=[16]) (by kernel_rfl) (by simp) ?_
        refine AllReadyH.cons (i:=16) rfl (fun K2 hK2 => ?_) AllReadyH.nil
        rw [if_pos (by rfl)]
        refine wp_store_row 39 _ _ rfl (w.heap.size+1) vr rfl rfl 39 _ Tw705_0.out Ivr.out (by rw [Zvr.out];rfl) Ovr.out ?_
        obtain ⟨w706,hw706⟩:∃ x,w705.setRow (w.heap.size+1) vr = x:=⟨_,rfl⟩
        have Kw706:Hid (But (fun k => k = w.heap.size+1) wv w706):=Lib.hid (by rw [← hw706];exact But.setRow Kw705.out (w.heap.size+1) vr (fun _ => rfl))
        have Tw706_0:Hid (w706.heap[(w.heap.size+1)]? = some (.cells vr 39 (0,0))):=Lib.hid (by rw [← hw706];exact setRow_heap _ _ _ _ _ _ Tw705_0.out)
        rw [hw706]
        clear hw706
        refine hK2.out _ _ Kw706.out (fun hHeld2 => ?_)
        clear hK2 K2
        try simp only [pu]
        refine wpAnyH_done (by kernel_rfl) ?_ _
        go_wp2
        refine bodyPost_ret (v:=.agg vr) (results_cell_row rfl _ _ (w.heap.size+1) 39 vr (0,0) _ rfl Tw706_0.out Tryz.underlying39 rfl Ivr.out) rfl ⟨rfl,HB.out.trans (But.to_below Kw706.out HB.out.size (fun k hk q => by omega))⟩
end Go.Proofs.YtpdkpdpkggepcaaGreatDoor

/- cartularyref18.Root, Inclusion: what a path says that the root is; the fault. No condition. -/
namespace Go.Proofs.YtpdkpdpkggepcaaGreatDoor
open Go.ChangeShapes Go.WideShapes Go.ChangeAt Go.RowKit
set_option linter.unusedVariables false
theorem plain18 (k:Nat) (hk:k ≠ 0) (hk2:k < 100) (w:World):Calls Tryz.prog 47 #[.int .i64 (k:Int)] w fun ev w' => ev = .returned (faultV k) ∧ Below w.heap.size w w':=by
  unfold faultV
  rw [if_neg hk]
  have h0:((k:Int) == 0) = false:=by simp;exact hk
  have k1:(0:Int) ≤ k:=by omega
  have k2:(k:Int) < 100:=by omega
  go_enter Tryz.func47,Tryz.ntmps47
  go_wp2
  refine bodyPost_ret (v:=.agg #[.int .i64 (k:Int),.int .i64 (-1)]) (by simp [results,Tryz.results47,go_sem]) rfl ⟨rfl,?_⟩
  repeat (first | exact Below.refl _ _ | (refine below_drewN ?_) | (refine Below.drew ?_) | (refine Below.alloc ?_ (by simp;try omega) _) | (refine Below.setCell ?_ (by simp;try omega) _))
theorem zero_row:∃ vz:Array Value,hv zeroH = .agg vz ∧ Hid (vz = (List.replicate 32 (Value.int .u8 0)).toArray) ∧ Hid (vz.size = 32) ∧ Hid ((Tryz.prog.info? 39).map (·.size) = some vz.size) ∧ Hid (vz.all (·.oneCell') = true):=by
  refine ⟨_,zeroH_v,Lib.hid rfl,Lib.hid rfl,Lib.hid (by kernel_rfl),Lib.hid (by simp [List.replicate,Value.oneCell'])⟩

set_option maxRecDepth 100000 in
set_option maxHeartbeats 4000000 in
theorem root18_range (ix sz : Int) (lf : List UInt8) (hlf : lf.length = 32) (P : List (List UInt8)) (A : Option Addr) (n c : Nat) (w : World) (h0 : 0 ≤ ix) (hix : ix < 18446744073709551616) (hs0 : 0 ≤ sz) (hsz : sz ≤ 9223372036854775808) (hI : HIn w A n c P) (h1 : sz ≤ ix) :
    Calls Tryz.prog 61 #[.int .u64 ix,.int .u64 sz,hv lf,.slice A n c] w fun ev w' => ev = .returned (.tuple #[hv zeroH,faultV 5]) ∧ Below w.heap.size w w':=by
  obtain ⟨vl,evl,Hvl,Zvl,Ivl,Ovl⟩:=row_of lf hlf
  obtain ⟨vf,evf,HVF,Zvf,Ivf,Ovf⟩:=fault_of 5
  obtain ⟨wv,hwv⟩:∃ y,(((w.alloc (.cells vl 39)).alloc (.cells (List.replicate 32 (Value.int .u8 0)).toArray 39)).alloc (.cells #[.int .i64 0,.int .i64 0] 52)) = y:=⟨_,rfl⟩
  have HB:Hid (Below w.heap.size w wv):=Lib.hid (by rw [← hwv];exact ((((Below.refl _ _).alloc (by simp;try omega) _).alloc (by simp;try omega) _).alloc (by simp;try omega) _))
  have HSV:Hid (wv.heap.size = w.heap.size+1+1+1):=Lib.hid (by rw [← hwv];simp)
  have RL:Hid (wv.heap[w.heap.size]? = some (.cells vl 39 (0,0))):=Lib.hid (by rw [← hwv];simp only [World.alloc,Array.getElem?_push,Array.size_push];(repeat' split) <;> first | rfl | (exfalso;omega) | simp_all)
  have RV:Hid (wv.heap[(w.heap.size+1)]? = some (.cells (List.replicate 32 (Value.int .u8 0)).toArray 39 (0,0))):=Lib.hid (by rw [← hwv];simp only [World.alloc,Array.getElem?_push,Array.size_push];(repeat' split) <;> first | rfl | (exfalso;omega) | simp_all)
  have RF:Hid (wv.heap[(w.heap.size+1+1)]? = some (.cells #[.int .i64 0,.int .i64 0] 52 (0,0))):=Lib.hid (by rw [← hwv];simp only [World.alloc,Array.getElem?_push,Array.size_push];(repeat' split) <;> first | rfl | (exfalso;omega) | simp_all)
  have HWV:=Lib.hid hwv
  simp only [List.replicate,List.toArray] at HWV
  obtain ⟨vr,evr,Hvr,Zvr,Ivr,Ovr⟩:=zero_row
  have PLAIN:Hid (∀ w,Calls Tryz.prog 47 #[.int .i64 5] w fun ev w' => ev = .returned (.agg vf) ∧ Below w.heap.size w w'):=Lib.hid (fun w => by rw [← evf];exact plain18 5 (by decide) (by decide) w)
  have q1:decide (9223372036854775808 < sz) = false:=by simp;omega
  have q2:decide (sz ≤ ix) = true:=by simp;omega
  have q3:¬ ix < sz:=by omega
  rw [evl,evf,evr]
  clear hwv evl evf evr hI hs0
  go_enter Tryz.func61,Tryz.ntmps61
  go_upto_region 1 with fail
  rw [HWV.out]
  go_wp2_with fail
  refine (PLAIN.out wv).mono ?_
  rintro ev w1 ⟨rfl,b1⟩
  have R91:Hid (w1.heap[(w.heap.size+1)]? = some (.cells (List.replicate 32 (Value.int .u8 0)).toArray 39 (0,0))):=Lib.hid ((b1.block _ (by have:=HSV.out;omega)).trans RV.out)
  have R101:Hid (w1.heap[(w.heap.size+1+1)]? = some (.cells #[.int .i64 0,.int .i64 0] 52 (0,0))):=Lib.hid ((b1.block _ (by have:=HSV.out;omega)).trans RF.out)
  have HB1:Hid (Below w.heap.size w w1):=Lib.hid (HB.out.trans (b1.mono HB.out.size))
  clear b1
  go_wp2_with (first
    | (refine wpList_store_row rfl 39 _ _ rfl (w.heap.size+1) vr rfl (by rw [Hvr.out];rfl) 39 _ R91.out Ivr.out (by rw [Zvr.out];rfl) Ovr.out ?_)
    | (refine wpList_store_row rfl 52 _ _ rfl (w.heap.size+1+1) vf rfl rfl 52 _ ((setRow_other _ _ _ _ (by omega)).trans R101.out) Ivf.out (by rw [Zvf.out];rfl) Ovf.out ?_))
  refine bodyPost_ret (v:=.tuple #[.agg vr,.agg vf]) (results_row_row rfl _ _ (w.heap.size+1) (w.heap.size+1+1) 39 52 vr vf (0,0) (0,0) _ _ rfl ((setRow_other _ _ _ _ (by omega)).trans (setRow_heap _ _ _ _ _ _ R91.out)) rfl (setRow_heap _ _ _ _ _ _ ((setRow_other _ _ _ _ (by omega)).trans R101.out)) Tryz.underlying39 rfl Ivr.out Tryz.underlying52 rfl Ivf.out) rfl ⟨rfl,below_setRow (below_setRow HB1.out _ _ (by omega)) _ _ (by omega)⟩

set_option maxRecDepth 100000 in
set_option maxHeartbeats 4000000 in
theorem root18_len (ix sz : Int) (lf : List UInt8) (hlf : lf.length = 32) (P : List (List UInt8)) (A : Option Addr) (n c : Nat) (w : World) (h0 : 0 ≤ ix) (hix : ix < 18446744073709551616) (hs0 : 0 ≤ sz) (hsz : sz ≤ 9223372036854775808) (hI : HIn w A n c P) (h1 : ix < sz) (hl : P.length ≠ (pathL 64 ix 0 sz).length) :
    Calls Tryz.prog 61 #[.int .u64 ix,.int .u64 sz,hv lf,.slice A n c] w fun ev w' => ev = .returned (.tuple #[hv zeroH,faultV 10]) ∧ Below w.heap.size w w':=by
  obtain ⟨vl,evl,Hvl,Zvl,Ivl,Ovl⟩:=row_of lf hlf
  obtain ⟨vf,evf,HVF,Zvf,Ivf,Ovf⟩:=fault_of 10
  obtain ⟨wv,hwv⟩:∃ y,(((w.alloc (.cells vl 39)).alloc (.cells (List.replicate 32 (Value.int .u8 0)).toArray 39)).alloc (.cells #[.int .i64 0,.int .i64 0] 52)) = y:=⟨_,rfl⟩
  have HB:Hid (Below w.heap.size w wv):=Lib.hid (by rw [← hwv];exact ((((Below.refl _ _).alloc (by simp;try omega) _).alloc (by simp;try omega) _).alloc (by simp;try omega) _))
  have HSV:Hid (wv.heap.size = w.heap.size+1+1+1):=Lib.hid (by rw [← hwv];simp)
  have RL:Hid (wv.heap[w.heap.size]? = some (.cells vl 39 (0,0))):=Lib.hid (by rw [← hwv];simp only [World.alloc,Array.getElem?_push,Array.size_push];(repeat' split) <;> first | rfl | (exfalso;omega) | simp_all)
  have RV:Hid (wv.heap[(w.heap.size+1)]? = some (.cells (List.replicate 32 (Value.int .u8 0)).toArray 39 (0,0))):=Lib.hid (by rw [← hwv];simp only [World.alloc,Array.getElem?_push,Array.size_push];(repeat' split) <;> first | rfl | (exfalso;omega) | simp_all)
  have RF:Hid (wv.heap[(w.heap.size+1+1)]? = some (.cells #[.int .i64 0,.int .i64 0] 52 (0,0))):=Lib.hid (by rw [← hwv];simp only [World.alloc,Array.getElem?_push,Array.size_push];(repeat' split) <;> first | rfl | (exfalso;omega) | simp_all)
  have HWV:=Lib.hid hwv
  simp only [List.replicate,List.toArray] at HWV
  obtain ⟨vr,evr,Hvr,Zvr,Ivr,Ovr⟩:=zero_row
  have PLAIN:Hid (∀ w,Calls Tryz.prog 47 #[.int .i64 10] w fun ev w' => ev = .returned (.agg vf) ∧ Below w.heap.size w w'):=Lib.hid (fun w => by rw [← evf];exact plain18 10 (by decide) (by decide) w)
  have HLO:Hid (∀ w',Calls Tryz.prog 92 #[.int .u64 ix,.int .u64 sz] w' fun ev w2 => ev = .returned (.int .i64 (pathL 64 ix 0 sz).length) ∧ w' = w2):=Lib.hid (fun w' => long18 ix sz w' h0 h1 hsz)
  have hN64:=pathL_len 64 ix 0 sz
  obtain ⟨N,hN⟩:∃ N,(pathL 64 ix 0 sz).length = N:=⟨_,rfl⟩
  rw [hN] at HLO hN64 hl
  have hPn:=hI.2.1
  have q1:decide (9223372036854775808 < sz) = false:=by simp;omega
  have q2:decide (sz ≤ ix) = false:=by simp;omega
  have q4:((n:Int) != (N:Int)) = true:=by simp;omega
  have hnn:n ≤ 9223372036854775807:=Nat.le_trans hI.2.2.1 hI.2.2.2.1
  rw [evl,evf,evr]
  clear hwv evl evf evr hI hs0 hN hPn hl
  go_enter Tryz.func61,Tryz.ntmps61
  go_upto_region 1 with fail
  rw [HWV.out]
  go_wp2_with fail
  refine (HLO.out wv).mono ?_
  rintro ev w0 ⟨rfl,rfl⟩
  go_wp2_with fail
  refine (PLAIN.out wv).mono ?_
  rintro ev w1 ⟨rfl,b1⟩
  have R91:Hid (w1.heap[(w.heap.size+1)]? = some (.cells (List.replicate 32 (Value.int .u8 0)).toArray 39 (0,0))):=Lib.hid ((b1.block _ (by have:=HSV.out;omega)).trans RV.out)
  have R101:Hid (w1.heap[(w.heap.size+1+1)]? = some (.cells #[.int .i64 0,.int .i64 0] 52 (0,0))):=Lib.hid ((b1.block _ (by have:=HSV.out;omega)).trans RF.out)
  have HB1:Hid (Below w.heap.size w w1):=Lib.hid (HB.out.trans (b1.mono HB.out.size))
  clear b1
  go_wp2_with (first
    | (refine wpList_store_row rfl 39 _ _ rfl (w.heap.size+1) vr rfl (by rw [Hvr.out];rfl) 39 _ R91.out Ivr.out (by rw [Zvr.out];rfl) Ovr.out ?_)
    | (refine wpList_store_row rfl 52 _ _ rfl (w.heap.size+1+1) vf rfl rfl 52 _ ((setRow_other _ _ _ _ (by omega)).trans R101.out) Ivf.out (by rw [Zvf.out];rfl) Ovf.out ?_))
  refine bodyPost_ret (v:=.tuple #[.agg vr,.agg vf]) (results_row_row rfl _ _ (w.heap.size+1) (w.heap.size+1+1) 39 52 vr vf (0,0) (0,0) _ _ rfl ((setRow_other _ _ _ _ (by omega)).trans (setRow_heap _ _ _ _ _ _ R91.out)) rfl (setRow_heap _ _ _ _ _ _ ((setRow_other _ _ _ _ (by omega)).trans R101.out)) Tryz.underlying39 rfl Ivr.out Tryz.underlying52 rfl Ivf.out) rfl ⟨rfl,below_setRow (below_setRow HB1.out _ _ (by omega)) _ _ (by omega)⟩

set_option maxRecDepth 100000 in
set_option maxHeartbeats 4000000 in
theorem root18_ok (ix sz : Int) (lf : List UInt8) (hlf : lf.length = 32) (P : List (List UInt8)) (A : Option Addr) (n c : Nat) (w : World) (h0 : 0 ≤ ix) (hix : ix < 18446744073709551616) (hs0 : 0 ≤ sz) (hsz : sz ≤ 9223372036854775808) (hI : HIn w A n c P) (h1 : ix < sz) (hl : P.length = (pathL 64 ix 0 sz).length) :
    Calls Tryz.prog 61 #[.int .u64 ix,.int .u64 sz,hv lf,.slice A n c] w fun ev w' => ev = .returned (.tuple #[hv (sayP lf 64 ix 0 sz P),faultV 0]) ∧ Below w.heap.size w w':=by
  obtain ⟨vl,evl,Hvl,Zvl,Ivl,Ovl⟩:=row_of lf hlf
  obtain ⟨vf,evf,HVF,Zvf,Ivf,Ovf⟩:=fault_of 0
  obtain ⟨wv,hwv⟩:∃ y,(((w.alloc (.cells vl 39)).alloc (.cells (List.replicate 32 (Value.int .u8 0)).toArray 39)).alloc (.cells #[.int .i64 0,.int .i64 0] 52)) = y:=⟨_,rfl⟩
  have HB:Hid (Below w.heap.size w wv):=Lib.hid (by rw [← hwv];exact ((((Below.refl _ _).alloc (by simp;try omega) _).alloc (by simp;try omega) _).alloc (by simp;try omega) _))
  have HSV:Hid (wv.heap.size = w.heap.size+1+1+1):=Lib.hid (by rw [← hwv];simp)
  have RL:Hid (wv.heap[w.heap.size]? = some (.cells vl 39 (0,0))):=Lib.hid (by rw [← hwv];simp only [World.alloc,Array.getElem?_push,Array.size_push];(repeat' split) <;> first | rfl | (exfalso;omega) | simp_all)
  have RV:Hid (wv.heap[(w.heap.size+1)]? = some (.cells (List.replicate 32 (Value.int .u8 0)).toArray 39 (0,0))):=Lib.hid (by rw [← hwv];simp only [World.alloc,Array.getElem?_push,Array.size_push];(repeat' split) <;> first | rfl | (exfalso;omega) | simp_all)
  have RF:Hid (wv.heap[(w.heap.size+1+1)]? = some (.cells #[.int .i64 0,.int .i64 0] 52 (0,0))):=Lib.hid (by rw [← hwv];simp only [World.alloc,Array.getElem?_push,Array.size_push];(repeat' split) <;> first | rfl | (exfalso;omega) | simp_all)
  have HWV:=Lib.hid hwv
  simp only [List.replicate,List.toArray] at HWV
  have l1:=sayP_len hlf hI.1 64 ix 0 sz
  obtain ⟨vr,evr,Hvr,Zvr,Ivr,Ovr⟩:=row_of _ l1
  have HSAY:Hid (Calls Tryz.prog 93 #[.int .u64 ix,.int .u64 sz,.agg vl,.slice A n c] wv fun ev w' => ev = .returned (.agg vr) ∧ Below wv.heap.size wv w'):=Lib.hid (by
    have:=says18 ix lf hlf 64 0 sz n c A P wv (by omega) h0 h1 hsz (by rw [pow2_64];omega) (by omega) hl (hI.below HB.out)
    rw [Int.sub_zero,Int.sub_zero,evl,evr] at this;exact this)
  have HLO:Hid (∀ w',Calls Tryz.prog 92 #[.int .u64 ix,.int .u64 sz] w' fun ev w2 => ev = .returned (.int .i64 (pathL 64 ix 0 sz).length) ∧ w' = w2):=Lib.hid (fun w' => long18 ix sz w' h0 h1 hsz)
  have hN64:=pathL_len 64 ix 0 sz
  obtain ⟨N,hN⟩:∃ N,(pathL 64 ix 0 sz).length = N:=⟨_,rfl⟩
  rw [hN] at HLO hN64 hl
  have hPn:=hI.2.1
  have q1:decide (9223372036854775808 < sz) = false:=by simp;omega
  have q2:decide (sz ≤ ix) = false:=by simp;omega
  have q4:((n:Int) != (N:Int)) = false:=by simp;omega
  have hnn:n ≤ 9223372036854775807:=Nat.le_trans hI.2.2.1 hI.2.2.2.1
  rw [evl,evf,evr]
  clear hwv evl evf evr hI hs0 l1 hN hPn hl
  go_enter Tryz.func61,Tryz.ntmps61
  go_upto_region 1 with fail
  rw [HWV.out]
  go_wp2_with fail
  refine (HLO.out wv).mono ?_
  rintro ev w0 ⟨rfl,rfl⟩
  go_wp2_with (refine wpList_load_row rfl 39 _ rfl w.heap.size rfl 39 vl (0,0) _ RL.out Tryz.underlying39 rfl Ivl.out ?_)
  refine HSAY.out.mono ?_
  rintro ev w1 ⟨rfl,b1⟩
  have R91:Hid (w1.heap[(w.heap.size+1)]? = some (.cells (List.replicate 32 (Value.int .u8 0)).toArray 39 (0,0))):=Lib.hid ((b1.block _ (by have:=HSV.out;omega)).trans RV.out)
  have R101:Hid (w1.heap[(w.heap.size+1+1)]? = some (.cells #[.int .i64 0,.int .i64 0] 52 (0,0))):=Lib.hid ((b1.block _ (by have:=HSV.out;omega)).trans RF.out)
  have HB1:Hid (Below w.heap.size w w1):=Lib.hid (HB.out.trans (b1.mono HB.out.size))
  clear b1
  go_wp2_with (first
    | (refine wpList_store_row rfl 39 _ _ rfl (w.heap.size+1) vr rfl rfl 39 _ R91.out Ivr.out (by rw [Zvr.out];rfl) Ovr.out ?_)
    | (refine wpList_store_row rfl 52 _ _ rfl (w.heap.size+1+1) vf rfl (by rw [HVF.out];rfl) 52 _ ((setRow_other _ _ _ _ (by omega)).trans R101.out) Ivf.out (by rw [Zvf.out];rfl) Ovf.out ?_))
  refine bodyPost_ret (v:=.tuple #[.agg vr,.agg vf]) (results_row_row rfl _ _ (w.heap.size+1) (w.heap.size+1+1) 39 52 vr vf (0,0) (0,0) _ _ rfl ((setRow_other _ _ _ _ (by omega)).trans (setRow_heap _ _ _ _ _ _ R91.out)) rfl (setRow_heap _ _ _ _ _ _ ((setRow_other _ _ _ _ (by omega)).trans R101.out)) Tryz.underlying39 rfl Ivr.out Tryz.underlying52 rfl Ivf.out) rfl ⟨rfl,below_setRow (below_setRow HB1.out _ _ (by omega)) _ _ (by omega)⟩

end Go.Proofs.YtpdkpdpkggepcaaGreatDoor

/- cartularyref18.Inclusion: the fault. No condition. -/
namespace Go.Proofs.YtpdkpdpkggepcaaGreatDoor
open Go.ChangeShapes Go.WideShapes Go.ChangeAt Go.RowKit
set_option linter.unusedVariables false
theorem eq_fault0 (w:World):(Op.equalIn 10000 52 (.agg #[.int .i64 (0:Nat),.int .i64 (if (0:Nat) = 0 then 0 else -1)]) (.agg #[.int .i64 0,.int .i64 0])).run Tryz.prog w = .ok true w:=by kernel_rfl
theorem eq_fault5 (w:World):(Op.equalIn 10000 52 (.agg #[.int .i64 (5:Nat),.int .i64 (if (5:Nat) = 0 then 0 else -1)]) (.agg #[.int .i64 0,.int .i64 0])).run Tryz.prog w = .ok false w:=by kernel_rfl
theorem eq_fault10 (w:World):(Op.equalIn 10000 52 (.agg #[.int .i64 (10:Nat),.int .i64 (if (10:Nat) = 0 then 0 else -1)]) (.agg #[.int .i64 0,.int .i64 0])).run Tryz.prog w = .ok false w:=by kernel_rfl

set_option maxRecDepth 100000 in
set_option maxHeartbeats 4000000 in
theorem incl18_bad (ix sz : Int) (lf t r : List UInt8) (hlf : lf.length = 32) (ht : t.length = 32) (hr : r.length = 32) (A : Option Addr) (n c : Nat) (k : Nat) (w : World) (hqk : ∀ w, (Op.equalIn 10000 52 (.agg #[.int .i64 k, .int .i64 (if k = 0 then 0 else -1)]) (.agg #[.int .i64 0, .int .i64 0])).run Tryz.prog w = .ok false w)
    (H:∀ w',Below w.heap.size w w' → Calls Tryz.prog 61 #[.int .u64 ix,.int .u64 sz,hv lf,.slice A n c] w' fun ev w2 => ev = .returned (.tuple #[hv r,faultV k]) ∧ Below w'.heap.size w' w2) :
    Calls Tryz.prog 29 #[.int .u64 ix,.int .u64 sz,hv lf,.slice A n c,hv t] w fun ev w' => ev = .returned (faultV k) ∧ Below w.heap.size w w':=by
  obtain ⟨vl,evl,Hvl,Zvl,Ivl,Ovl⟩:=row_of lf hlf
  obtain ⟨vt,evt,Hvt,Zvt,Ivt,Ovt⟩:=row_of t ht
  obtain ⟨vr,evr,Hvr,Zvr,Ivr,Ovr⟩:=row_of r hr
  obtain ⟨vf,evf,HVF,Zvf,Ivf,Ovf⟩:=fault_of k
  have hqf:∀ w,(Op.equalIn 10000 52 (.agg vf) (.agg #[.int .i64 0,.int .i64 0])).run Tryz.prog w = .ok false w:=fun w => by rw [HVF.out];exact hqk w
  rw [evr,evf,evl] at H
  have CR:=Lib.hid H
  obtain ⟨wv,hwv⟩:∃ y,(((w.alloc (.cells vl 39)).alloc (.cells vt 39)).alloc (.cells #[.int .i64 0,.int .i64 0] 52)) = y:=⟨_,rfl⟩
  have HB:Hid (Below w.heap.size w wv):=Lib.hid (by rw [← hwv];exact ((((Below.refl _ _).alloc (by simp;try omega) _).alloc (by simp;try omega) _).alloc (by simp;try omega) _))
  have HSV:Hid (wv.heap.size = w.heap.size+1+1+1):=Lib.hid (by rw [← hwv];simp)
  have RL:Hid (wv.heap[w.heap.size]? = some (.cells vl 39 (0,0))):=Lib.hid (by rw [← hwv];simp only [World.alloc,Array.getElem?_push,Array.size_push];(repeat' split) <;> first | rfl | (exfalso;omega) | simp_all)
  have RT:Hid (wv.heap[(w.heap.size+1)]? = some (.cells vt 39 (0,0))):=Lib.hid (by rw [← hwv];simp only [World.alloc,Array.getElem?_push,Array.size_push];(repeat' split) <;> first | rfl | (exfalso;omega) | simp_all)
  have RF:Hid (wv.heap[(w.heap.size+1+1)]? = some (.cells #[.int .i64 0,.int .i64 0] 52 (0,0))):=Lib.hid (by rw [← hwv];simp only [World.alloc,Array.getElem?_push,Array.size_push];(repeat' split) <;> first | rfl | (exfalso;omega) | simp_all)
  have HWV:=Lib.hid hwv
  rw [evf]
  clear hqk
  rw [evt,evl]
  clear hwv evt evr evf evl H ht hr hlf
  go_enter Tryz.func29,Tryz.ntmps29
  go_upto_region 1 with fail
  rw [HWV.out]
  go_wp2_with (refine wpList_load_row rfl 39 _ rfl w.heap.size rfl 39 vl (0,0) _ RL.out Tryz.underlying39 rfl Ivl.out ?_)
  refine (CR.out wv HB.out).mono ?_
  rintro ev w1 ⟨rfl,b1⟩
  have B1:=Lib.hid b1
  have HS1:Hid (w.heap.size+3 ≤ w1.heap.size):=Lib.hid (by have:=b1.size;have:=HSV.out;omega)
  clear b1
  go_upto_region 2 with (first
    | (refine wpList_store_row_any rfl 39 _ _ rfl w1.heap.size vr rfl rfl 39 _ ((((Below.refl _ (w1.alloc _)).alloc (Nat.le_refl _) _).block _ (by simp)).trans (heap_at _ _ _ rfl)) Ivr.out (by rw [Zvr.out];rfl) Ovr.out ?_;intro w2 hbA hgA hsA;have BA:=Lib.hid hbA;have GA:=Lib.hid hgA;have SA:Hid (w2.heap.size = w1.heap.size+1+1):=Lib.hid (hsA.trans (by simp));clear hbA hgA hsA)
    | (refine wpList_store_row_any rfl 52 _ _ rfl (w1.heap.size+1) vf rfl rfl 52 _ ((BA.out.same _ (by simp) (by omega)).trans (heap_at _ _ _ (by simp))) Ivf.out (by rw [Zvf.out];rfl) Ovf.out ?_;intro wy hbB hgB hsB;have BC:=Lib.hid hbB;have RG:=Lib.hid hgB;have SB:Hid (wy.heap.size = w1.heap.size+1+1):=Lib.hid (hsB.trans SA.out);clear hbB hgB hsB))
  have B1Y:Hid (Below w1.heap.size w1 wy):=Lib.hid ((((Below.refl _ _).alloc (Nat.le_refl _) _).alloc (by simp) _).trans (((BA.out.mono (T:=fun k => k = w1.heap.size ∨ k = w1.heap.size+1) (fun _ _ q => .inl q)).step BC.out (fun _ _ q => .inr q)).to_below (by simp;omega) (fun k hk q => by omega)))
  have RR:Hid (wy.heap[w1.heap.size]? = some (.cells vr 39 (0,0))):=Lib.hid ((BC.out.same _ (by have:=SA.out;omega) (by omega)).trans GA.out)
  have R9y:Hid (wy.heap[(w.heap.size+1)]? = some (.cells vt 39 (0,0))):=Lib.hid ((B1Y.out.block _ (by have:=HS1.out;omega)).trans ((B1.out.block _ (by have:=HSV.out;omega)).trans RT.out))
  have R10y:Hid (wy.heap[(w.heap.size+1+1)]? = some (.cells #[.int .i64 0,.int .i64 0] 52 (0,0))):=Lib.hid ((B1Y.out.block _ (by have:=HS1.out;omega)).trans ((B1.out.block _ (by have:=HSV.out;omega)).trans RF.out))
  have HBY:Hid (Below w.heap.size w wy):=Lib.hid ((HB.out.trans (B1.out.mono (by have:=HSV.out;omega))).trans (B1Y.out.mono (by have:=HS1.out;omega)))
  go_wp2_with (first
    | (refine wpList_load_row rfl 39 _ rfl w1.heap.size rfl 39 vr (0,0) _ RR.out Tryz.underlying39 rfl Ivr.out ?_)
    | (refine wpList_load_row rfl 39 _ rfl (w.heap.size+1) rfl 39 vt (0,0) _ R9y.out Tryz.underlying39 rfl Ivt.out ?_)
    | (refine wpList_load_row rfl 52 _ rfl (w1.heap.size+1) rfl 52 vf (0,0) _ RG.out Tryz.underlying52 rfl Ivf.out ?_)
    | (refine wpList_store_row rfl 52 _ _ rfl (w.heap.size+1+1) vf rfl rfl 52 _ R10y.out Ivf.out (by rw [Zvf.out];rfl) Ovf.out ?_))
  refine bodyPost_ret (v:=.agg vf) (results_cell_row rfl _ _ (w.heap.size+1+1) 52 vf (0,0) _ rfl (setRow_heap _ _ _ _ _ _ R10y.out) Tryz.underlying52 rfl Ivf.out) rfl ⟨rfl,below_setRow HBY.out _ _ (by omega)⟩

set_option maxRecDepth 100000 in
set_option maxHeartbeats 4000000 in
theorem incl18_eq (ix sz : Int) (lf t r : List UInt8) (hlf : lf.length = 32) (ht : t.length = 32) (hr : r.length = 32) (A : Option Addr) (n c : Nat) (k : Nat) (w : World) (hq : r = t)
    (H:∀ w',Below w.heap.size w w' → Calls Tryz.prog 61 #[.int .u64 ix,.int .u64 sz,hv lf,.slice A n c] w' fun ev w2 => ev = .returned (.tuple #[hv r,faultV (0:Nat)]) ∧ Below w'.heap.size w' w2) :
    Calls Tryz.prog 29 #[.int .u64 ix,.int .u64 sz,hv lf,.slice A n c,hv t] w fun ev w' => ev = .returned (faultV 0) ∧ Below w.heap.size w w':=by
  obtain ⟨vl,evl,Hvl,Zvl,Ivl,Ovl⟩:=row_of lf hlf
  obtain ⟨vt,evt,Hvt,Zvt,Ivt,Ovt⟩:=row_of t ht
  obtain ⟨vr,evr,Hvr,Zvr,Ivr,Ovr⟩:=row_of r hr
  obtain ⟨vf,evf,HVF,Zvf,Ivf,Ovf⟩:=fault_of (0:Nat)
  have hqf:∀ w,(Op.equalIn 10000 52 (.agg vf) (.agg #[.int .i64 0,.int .i64 0])).run Tryz.prog w = .ok true w:=fun w => by rw [HVF.out];exact eq_fault0 w
  rw [evr,evf,evl] at H
  have CR:=Lib.hid H
  obtain ⟨wv,hwv⟩:∃ y,(((w.alloc (.cells vl 39)).alloc (.cells vt 39)).alloc (.cells #[.int .i64 0,.int .i64 0] 52)) = y:=⟨_,rfl⟩
  have HB:Hid (Below w.heap.size w wv):=Lib.hid (by rw [← hwv];exact ((((Below.refl _ _).alloc (by simp;try omega) _).alloc (by simp;try omega) _).alloc (by simp;try omega) _))
  have HSV:Hid (wv.heap.size = w.heap.size+1+1+1):=Lib.hid (by rw [← hwv];simp)
  have RL:Hid (wv.heap[w.heap.size]? = some (.cells vl 39 (0,0))):=Lib.hid (by rw [← hwv];simp only [World.alloc,Array.getElem?_push,Array.size_push];(repeat' split) <;> first | rfl | (exfalso;omega) | simp_all)
  have RT:Hid (wv.heap[(w.heap.size+1)]? = some (.cells vt 39 (0,0))):=Lib.hid (by rw [← hwv];simp only [World.alloc,Array.getElem?_push,Array.size_push];(repeat' split) <;> first | rfl | (exfalso;omega) | simp_all)
  have RF:Hid (wv.heap[(w.heap.size+1+1)]? = some (.cells #[.int .i64 0,.int .i64 0] 52 (0,0))):=Lib.hid (by rw [← hwv];simp only [World.alloc,Array.getElem?_push,Array.size_push];(repeat' split) <;> first | rfl | (exfalso;omega) | simp_all)
  have HWV:=Lib.hid hwv
  have hqe:∀ w,(Op.equalIn 10000 39 (.agg vr) (.agg vt)).run Tryz.prog w = .ok true w:=fun w => by rw [eq_hash r t hr ht vr vt evr evt w];simp [hq]
  rw [evf]
  clear hq
  rw [evt,evl]
  clear hwv evt evr evf evl H ht hr hlf
  go_enter Tryz.func29,Tryz.ntmps29
  go_upto_region 1 with fail
  rw [HWV.out]
  go_wp2_with (refine wpList_load_row rfl 39 _ rfl w.heap.size rfl 39 vl (0,0) _ RL.out Tryz.underlying39 rfl Ivl.out ?_)
  refine (CR.out wv HB.out).mono ?_
  rintro ev w1 ⟨rfl,b1⟩
  have B1:=Lib.hid b1
  have HS1:Hid (w.heap.size+3 ≤ w1.heap.size):=Lib.hid (by have:=b1.size;have:=HSV.out;omega)
  clear b1
  go_upto_region 2 with (first
    | (refine wpList_store_row_any rfl 39 _ _ rfl w1.heap.size vr rfl rfl 39 _ ((((Below.refl _ (w1.alloc _)).alloc (Nat.le_refl _) _).block _ (by simp)).trans (heap_at _ _ _ rfl)) Ivr.out (by rw [Zvr.out];rfl) Ovr.out ?_;intro w2 hbA hgA hsA;have BA:=Lib.hid hbA;have GA:=Lib.hid hgA;have SA:Hid (w2.heap.size = w1.heap.size+1+1):=Lib.hid (hsA.trans (by simp));clear hbA hgA hsA)
    | (refine wpList_store_row_any rfl 52 _ _ rfl (w1.heap.size+1) vf rfl rfl 52 _ ((BA.out.same _ (by simp) (by omega)).trans (heap_at _ _ _ (by simp))) Ivf.out (by rw [Zvf.out];rfl) Ovf.out ?_;intro wy hbB hgB hsB;have BC:=Lib.hid hbB;have RG:=Lib.hid hgB;have SB:Hid (wy.heap.size = w1.heap.size+1+1):=Lib.hid (hsB.trans SA.out);clear hbB hgB hsB))
  have B1Y:Hid (Below w1.heap.size w1 wy):=Lib.hid ((((Below.refl _ _).alloc (Nat.le_refl _) _).alloc (by simp) _).trans (((BA.out.mono (T:=fun k => k = w1.heap.size ∨ k = w1.heap.size+1) (fun _ _ q => .inl q)).step BC.out (fun _ _ q => .inr q)).to_below (by simp;omega) (fun k hk q => by omega)))
  have RR:Hid (wy.heap[w1.heap.size]? = some (.cells vr 39 (0,0))):=Lib.hid ((BC.out.same _ (by have:=SA.out;omega) (by omega)).trans GA.out)
  have R9y:Hid (wy.heap[(w.heap.size+1)]? = some (.cells vt 39 (0,0))):=Lib.hid ((B1Y.out.block _ (by have:=HS1.out;omega)).trans ((B1.out.block _ (by have:=HSV.out;omega)).trans RT.out))
  have R10y:Hid (wy.heap[(w.heap.size+1+1)]? = some (.cells #[.int .i64 0,.int .i64 0] 52 (0,0))):=Lib.hid ((B1Y.out.block _ (by have:=HS1.out;omega)).trans ((B1.out.block _ (by have:=HSV.out;omega)).trans RF.out))
  have HBY:Hid (Below w.heap.size w wy):=Lib.hid ((HB.out.trans (B1.out.mono (by have:=HSV.out;omega))).trans (B1Y.out.mono (by have:=HS1.out;omega)))
  go_wp2_with (first
    | (refine wpList_load_row rfl 39 _ rfl w1.heap.size rfl 39 vr (0,0) _ RR.out Tryz.underlying39 rfl Ivr.out ?_)
    | (refine wpList_load_row rfl 39 _ rfl (w.heap.size+1) rfl 39 vt (0,0) _ R9y.out Tryz.underlying39 rfl Ivt.out ?_)
    | (refine wpList_load_row rfl 52 _ rfl (w1.heap.size+1) rfl 52 vf (0,0) _ RG.out Tryz.underlying52 rfl Ivf.out ?_)
    | (refine wpList_store_row rfl 52 _ _ rfl (w.heap.size+1+1) vf rfl (by rw [HVF.out];rfl) 52 _ R10y.out Ivf.out (by rw [Zvf.out];rfl) Ovf.out ?_))
  refine bodyPost_ret (v:=.agg vf) (results_cell_row rfl _ _ (w.heap.size+1+1) 52 vf (0,0) _ rfl (setRow_heap _ _ _ _ _ _ R10y.out) Tryz.underlying52 rfl Ivf.out) rfl ⟨rfl,below_setRow HBY.out _ _ (by omega)⟩

set_option maxRecDepth 100000 in
set_option maxHeartbeats 4000000 in
theorem incl18_ne (ix sz : Int) (lf t r : List UInt8) (hlf : lf.length = 32) (ht : t.length = 32) (hr : r.length = 32) (A : Option Addr) (n c : Nat) (k : Nat) (w : World) (hq : r ≠ t)
    (H:∀ w',Below w.heap.size w w' → Calls Tryz.prog 61 #[.int .u64 ix,.int .u64 sz,hv lf,.slice A n c] w' fun ev w2 => ev = .returned (.tuple #[hv r,faultV (0:Nat)]) ∧ Below w'.heap.size w' w2) :
    Calls Tryz.prog 29 #[.int .u64 ix,.int .u64 sz,hv lf,.slice A n c,hv t] w fun ev w' => ev = .returned (faultV 10) ∧ Below w.heap.size w w':=by
  obtain ⟨vl,evl,Hvl,Zvl,Ivl,Ovl⟩:=row_of lf hlf
  obtain ⟨vt,evt,Hvt,Zvt,Ivt,Ovt⟩:=row_of t ht
  obtain ⟨vr,evr,Hvr,Zvr,Ivr,Ovr⟩:=row_of r hr
  obtain ⟨vf,evf,HVF,Zvf,Ivf,Ovf⟩:=fault_of (0:Nat)
  have hqf:∀ w,(Op.equalIn 10000 52 (.agg vf) (.agg #[.int .i64 0,.int .i64 0])).run Tryz.prog w = .ok true w:=fun w => by rw [HVF.out];exact eq_fault0 w
  rw [evr,evf,evl] at H
  have CR:=Lib.hid H
  obtain ⟨wv,hwv⟩:∃ y,(((w.alloc (.cells vl 39)).alloc (.cells vt 39)).alloc (.cells #[.int .i64 0,.int .i64 0] 52)) = y:=⟨_,rfl⟩
  have HB:Hid (Below w.heap.size w wv):=Lib.hid (by rw [← hwv];exact ((((Below.refl _ _).alloc (by simp;try omega) _).alloc (by simp;try omega) _).alloc (by simp;try omega) _))
  have HSV:Hid (wv.heap.size = w.heap.size+1+1+1):=Lib.hid (by rw [← hwv];simp)
  have RL:Hid (wv.heap[w.heap.size]? = some (.cells vl 39 (0,0))):=Lib.hid (by rw [← hwv];simp only [World.alloc,Array.getElem?_push,Array.size_push];(repeat' split) <;> first | rfl | (exfalso;omega) | simp_all)
  have RT:Hid (wv.heap[(w.heap.size+1)]? = some (.cells vt 39 (0,0))):=Lib.hid (by rw [← hwv];simp only [World.alloc,Array.getElem?_push,Array.size_push];(repeat' split) <;> first | rfl | (exfalso;omega) | simp_all)
  have RF:Hid (wv.heap[(w.heap.size+1+1)]? = some (.cells #[.int .i64 0,.int .i64 0] 52 (0,0))):=Lib.hid (by rw [← hwv];simp only [World.alloc,Array.getElem?_push,Array.size_push];(repeat' split) <;> first | rfl | (exfalso;omega) | simp_all)
  have HWV:=Lib.hid hwv
  have hqe:∀ w,(Op.equalIn 10000 39 (.agg vr) (.agg vt)).run Tryz.prog w = .ok false w:=fun w => by rw [eq_hash r t hr ht vr vt evr evt w];simp [hq]
  obtain ⟨vq,evq,HVQ,Zvq,Ivq,Ovq⟩:=fault_of 10
  have PLAIN:Hid (∀ w,Calls Tryz.prog 47 #[.int .i64 10] w fun ev w' => ev = .returned (.agg vq) ∧ Below w.heap.size w w'):=Lib.hid (fun w => by rw [← evq];exact plain18 10 (by decide) (by decide) w)
  rw [evq]
  clear hq evq
  rw [evt,evl]
  clear hwv evt evr evf evl H ht hr hlf
  go_enter Tryz.func29,Tryz.ntmps29
  go_upto_region 1 with fail
  rw [HWV.out]
  go_wp2_with (refine wpList_load_row rfl 39 _ rfl w.heap.size rfl 39 vl (0,0) _ RL.out Tryz.underlying39 rfl Ivl.out ?_)
  refine (CR.out wv HB.out).mono ?_
  rintro ev w1 ⟨rfl,b1⟩
  have B1:=Lib.hid b1
  have HS1:Hid (w.heap.size+3 ≤ w1.heap.size):=Lib.hid (by have:=b1.size;have:=HSV.out;omega)
  clear b1
  go_upto_region 2 with (first
    | (refine wpList_store_row_any rfl 39 _ _ rfl w1.heap.size vr rfl rfl 39 _ ((((Below.refl _ (w1.alloc _)).alloc (Nat.le_refl _) _).block _ (by simp)).trans (heap_at _ _ _ rfl)) Ivr.out (by rw [Zvr.out];rfl) Ovr.out ?_;intro w2 hbA hgA hsA;have BA:=Lib.hid hbA;have GA:=Lib.hid hgA;have SA:Hid (w2.heap.size = w1.heap.size+1+1):=Lib.hid (hsA.trans (by simp));clear hbA hgA hsA)
    | (refine wpList_store_row_any rfl 52 _ _ rfl (w1.heap.size+1) vf rfl rfl 52 _ ((BA.out.same _ (by simp) (by omega)).trans (heap_at _ _ _ (by simp))) Ivf.out (by rw [Zvf.out];rfl) Ovf.out ?_;intro wy hbB hgB hsB;have BC:=Lib.hid hbB;have RG:=Lib.hid hgB;have SB:Hid (wy.heap.size = w1.heap.size+1+1):=Lib.hid (hsB.trans SA.out);clear hbB hgB hsB))
  have B1Y:Hid (Below w1.heap.size w1 wy):=Lib.hid ((((Below.refl _ _).alloc (Nat.le_refl _) _).alloc (by simp) _).trans (((BA.out.mono (T:=fun k => k = w1.heap.size ∨ k = w1.heap.size+1) (fun _ _ q => .inl q)).step BC.out (fun _ _ q => .inr q)).to_below (by simp;omega) (fun k hk q => by omega)))
  have RR:Hid (wy.heap[w1.heap.size]? = some (.cells vr 39 (0,0))):=Lib.hid ((BC.out.same _ (by have:=SA.out;omega) (by omega)).trans GA.out)
  have R9y:Hid (wy.heap[(w.heap.size+1)]? = some (.cells vt 39 (0,0))):=Lib.hid ((B1Y.out.block _ (by have:=HS1.out;omega)).trans ((B1.out.block _ (by have:=HSV.out;omega)).trans RT.out))
  have R10y:Hid (wy.heap[(w.heap.size+1+1)]? = some (.cells #[.int .i64 0,.int .i64 0] 52 (0,0))):=Lib.hid ((B1Y.out.block _ (by have:=HS1.out;omega)).trans ((B1.out.block _ (by have:=HSV.out;omega)).trans RF.out))
  have HBY:Hid (Below w.heap.size w wy):=Lib.hid ((HB.out.trans (B1.out.mono (by have:=HSV.out;omega))).trans (B1Y.out.mono (by have:=HS1.out;omega)))
  go_wp2_with (first
    | (refine wpList_load_row rfl 39 _ rfl w1.heap.size rfl 39 vr (0,0) _ RR.out Tryz.underlying39 rfl Ivr.out ?_)
    | (refine wpList_load_row rfl 39 _ rfl (w.heap.size+1) rfl 39 vt (0,0) _ R9y.out Tryz.underlying39 rfl Ivt.out ?_)
    | (refine wpList_load_row rfl 52 _ rfl (w1.heap.size+1) rfl 52 vf (0,0) _ RG.out Tryz.underlying52 rfl Ivf.out ?_))
  refine (PLAIN.out _).mono ?_
  rintro ev w3 ⟨rfl,b3⟩
  have R93:Hid (w3.heap[(w.heap.size+1+1)]? = some (.cells #[.int .i64 0,.int .i64 0] 52 (0,0))):=Lib.hid ((b3.block _ (Array.getElem?_eq_some_iff.1 R10y.out).1).trans R10y.out)
  have HB3:Hid (Below w.heap.size w w3):=Lib.hid (HBY.out.trans (b3.mono HBY.out.size))
  clear b3
  go_wp2_with (refine wpList_store_row rfl 52 _ _ rfl (w.heap.size+1+1) vq rfl rfl 52 _ R93.out Ivq.out (by rw [Zvq.out];rfl) Ovq.out ?_)
  refine bodyPost_ret (v:=.agg vq) (results_cell_row rfl _ _ (w.heap.size+1+1) 52 vq (0,0) _ rfl (setRow_heap _ _ _ _ _ _ R93.out) Tryz.underlying52 rfl Ivq.out) rfl ⟨rfl,below_setRow HB3.out _ _ (by omega)⟩

/-- which fault Inclusion tells -/
def incK (ix sz:Int) (lf t:List UInt8) (P:List (List UInt8)):Nat:=if sz ≤ ix then 5 else if P.length ≠ (pathL 64 ix 0 sz).length then 10 else if sayP lf 64 ix 0 sz P = t then 0 else 10
theorem incl18_any (ix sz : Int) (lf : List UInt8) (hlf : lf.length = 32) (P : List (List UInt8)) (A : Option Addr) (n c : Nat) (w : World) (h0 : 0 ≤ ix) (hix : ix < 18446744073709551616) (hs0 : 0 ≤ sz) (hsz : sz ≤ 9223372036854775808) (hI : HIn w A n c P) (t : List UInt8) (ht : t.length = 32) :
    Calls Tryz.prog 29 #[.int .u64 ix,.int .u64 sz,hv lf,.slice A n c,hv t] w fun ev w' => ev = .returned (faultV (incK ix sz lf t P)) ∧ Below w.heap.size w w':=by
  unfold incK
  by_cases h1:sz ≤ ix
  · rw [if_pos h1]
    exact incl18_bad ix sz lf t zeroH hlf ht zeroH_length A n c 5 w eq_fault5 (fun w' h => root18_range ix sz lf hlf P A n c w' h0 hix hs0 hsz (hI.below h) h1)
  · rw [if_neg h1]
    by_cases hl:P.length = (pathL 64 ix 0 sz).length
    · rw [if_neg (by simpa using hl)]
      have H:=fun w' (h:Below w.heap.size w w') => root18_ok ix sz lf hlf P A n c w' h0 hix hs0 hsz (hI.below h) (by omega) hl
      have lr:=sayP_len hlf hI.1 64 ix 0 sz
      by_cases hq:sayP lf 64 ix 0 sz P = t
      · rw [if_pos hq];exact incl18_eq ix sz lf t _ hlf ht lr A n c 0 w hq H
      · rw [if_neg hq];exact incl18_ne ix sz lf t _ hlf ht lr A n c 0 w hq H
    · rw [if_pos hl]
      exact incl18_bad ix sz lf t zeroH hlf ht zeroH_length A n c 10 w eq_fault10 (fun w' h => root18_len ix sz lf hlf P A n c w' h0 hix hs0 hsz (hI.below h) (by omega) hl)
end Go.Proofs.YtpdkpdpkggepcaaGreatDoor

