import Derived.Test.YtpdkpdpkggepcaaGreatDoorTwinHash
import Derived.Test.YtpdkpdpkggepcaaGreatDoorMem
import Derived.Test.YtpdkpdpkggepcaaGreatDoorRef18
import Derived.Test.YtpdkpdpkggepcaaGreatDoorRefTops
import Derived.Test.YtpdkpdpkggepcaaGreatDoorSpanPlain
/- cartularyref08.Log.Tree, Root; cartularyref20.tree, halves, so: what stands in the log. No condition. -/
namespace Go.Proofs.YtpdkpdpkggepcaaGreatDoor
open Go.ChangeShapes Go.WideShapes Go.ChangeAt Go.RowKit
set_option maxRecDepth 100000
set_option maxHeartbeats 8000000
open Lib (hid)
set_option linter.unusedVariables false
theorem rsize_any (base b:Nat) (v:Value) (L:List ByteArray) (w:World) (h:RLogAt base b v L w):Calls Tryz.prog 90 #[.pointer (some ⟨b,0,none⟩)] w fun ev w' => ev = .returned (.int .u64 L.length) ∧ Below w.heap.size w w':=by
 obtain ⟨A,cap,rfl,hcap⟩:=own_shape h.2.2.2.1
 have c0:=h.c0
 have hL:=h.1.1
 obtain ⟨n,hn⟩:∃ n,L.length = n:=⟨_,rfl⟩
 rw [hn] at c0 hL ⊢
 have hw:IntKind.u64.wrap (n:Int) = n:=IntWalk.u64_in _ (by omega)
 clear h hcap hn
 go_enter Tryz.func90,Tryz.ntmps90
 go_wp2
 go_ret
 exact ⟨rfl,Below.refl _ _⟩
theorem wrong_any (w:World):Calls Tryz.prog 91 #[] w fun ev w' => ev = .returned (faultV 5) ∧ Below w.heap.size w w':=by
 obtain ⟨vf,evf,HVF,Zvf,Ivf,Ovf⟩:=fault_of 5
 obtain ⟨wv,hwv⟩:∃ y,(w.alloc (.cells #[.int .i64 0,.int .i64 0] 52)) = y:=⟨_,rfl⟩
 have HB:Hid (Below w.heap.size w wv):=hid (by rw [← hwv];exact ((Below.refl _ _).alloc (by simp;try omega) _))
 have HSV:Hid (wv.heap.size = w.heap.size+1):=hid (by rw [← hwv];simp)
 have RF:Hid (wv.heap[w.heap.size]? = some (.cells #[.int .i64 0,.int .i64 0] 52 (0,0))):=hid (by rw [← hwv];exact heap_at _ _ _ rfl)
 have HWV:=hid hwv
 have PLAIN:Hid (∀ w,Calls Tryz.prog 47 #[.int .i64 5] w fun ev w' => ev = .returned (.agg vf) ∧ Below w.heap.size w w'):=hid (fun w => by rw [← evf];exact plain18 5 (by decide) (by decide) w)
 rw [evf]
 clear hwv evf
 go_enter Tryz.func91,Tryz.ntmps91
 go_upto_region 1 with fail
 rw [HWV.out]
 go_wp2_with fail
 refine (PLAIN.out wv).mono ?_
 rintro ev w1 ⟨rfl,b1⟩
 have R1:Hid (w1.heap[w.heap.size]? = some (.cells #[.int .i64 0,.int .i64 0] 52 (0,0))):=hid ((b1.block _ (by have:=HSV.out;omega)).trans RF.out)
 have HB1:Hid (Below w.heap.size w w1):=hid (HB.out.trans (b1.mono HB.out.size))
 clear b1
 go_wp2_with (refine wpList_store_row rfl 52 _ _ rfl w.heap.size vf rfl rfl 52 _ R1.out Ivf.out (by rw [Zvf.out];rfl) Ovf.out ?_)
 refine bodyPost_ret (v:=.agg vf) (results_cell_row rfl _ _ w.heap.size 52 vf (0,0) _ rfl (setRow_heap _ _ _ _ _ _ R1.out) Tryz.underlying52 rfl Ivf.out) rfl ⟨rfl,below_setRow HB1.out _ _ (Nat.le_refl _)⟩
theorem rlog_sin {base b:Nat} {A:Option Addr} {n cap:Nat} {L:List ByteArray} {w:World} (h:RLogAt base b (.slice A n cap) L w):n = L.length ∧ SIn w A n cap L ∧ (A = none ∧ cap = 0 ∨ ∃ g,A = some ⟨g,0,none⟩):=by
 have ho:=h.2.2.2.1
 obtain ⟨A',cap',e,_⟩:=own_shape ho
 cases e
 refine ⟨rfl,own_sin ho rfl (fun s hs => by have:=h.1.2 s hs;omega) (by have:=h.1.1;omega),?_⟩
 rcases ho with ⟨_,⟨h2,h3⟩ | ⟨g,c,cur,h2,_⟩⟩
 ·simp only [Value.slice.injEq] at h2
  exact .inl ⟨h2.1,h2.2.2⟩
 ·simp only [Value.slice.injEq] at h2
  exact .inr ⟨g,h2.1⟩
theorem sin_keep {w w':World} {A:Option Addr} {n c:Nat} {l:List ByteArray} (h:SIn w A n c l) (hb:∀ g o,A = some ⟨g,o,none⟩ → w'.heap[g]? = w.heap[g]?):SIn w' A n c l:=by
 obtain ⟨h1,h2,h3,h4,h6,h5⟩:=h
 refine ⟨h1,h2,h3,h4,h6,?_⟩
 rcases h5 with h5 | ⟨g,o,h6,h7⟩
 ·exact .inl h5
 ·exact .inr ⟨g,o,h6,rangeAt_block (hb g o h6) h7⟩
theorem tree08_bad (base b2:Nat) (v:Value) (L:List ByteArray) (sz:Nat) (w:World) (h:RLogAt base b2 v L w) (h1:L.length < sz) (h2:sz < 18446744073709551616) :
 Calls Tryz.prog 60 #[.pointer (some ⟨b2,0,none⟩),.agg #[.int .u64 0,.int .u64 sz]] w fun ev w' => ev = .returned (.tuple #[hv zeroH,faultV 5]) ∧ Below w.heap.size w w':=by
 obtain ⟨vf,evf,HVF,Zvf,Ivf,Ovf⟩:=fault_of 5
 obtain ⟨vr,evr,Hvr,Zvr,Ivr,Ovr⟩:=zero_row
 obtain ⟨wv,hwv⟩:∃ y,(((w.alloc (.cells #[.int .u64 0,.int .u64 (sz:Nat)] 84)).alloc (.cells (List.replicate 32 (Value.int .u8 0)).toArray 39)).alloc (.cells #[.int .i64 0,.int .i64 0] 52)) = y:=⟨_,rfl⟩
 have HB:Hid (Below w.heap.size w wv):=hid (by rw [← hwv];exact ((((Below.refl _ _).alloc (by simp;try omega) _).alloc (by simp;try omega) _).alloc (by simp;try omega) _))
 have HSV:Hid (wv.heap.size = w.heap.size+1+1+1):=hid (by rw [← hwv];simp)
 have RX:Hid (wv.heap[w.heap.size]? = some (.cells #[.int .u64 0,.int .u64 (sz:Nat)] 84 (0,0))):=hid (by rw [← hwv];simp only [World.alloc,Array.getElem?_push,Array.size_push];(repeat' split) <;> first | rfl | (exfalso;omega) | simp_all)
 have RV:Hid (wv.heap[(w.heap.size+1)]? = some (.cells (List.replicate 32 (Value.int .u8 0)).toArray 39 (0,0))):=hid (by rw [← hwv];simp only [World.alloc,Array.getElem?_push,Array.size_push];(repeat' split) <;> first | rfl | (exfalso;omega) | simp_all)
 have RF:Hid (wv.heap[(w.heap.size+1+1)]? = some (.cells #[.int .i64 0,.int .i64 0] 52 (0,0))):=hid (by rw [← hwv];simp only [World.alloc,Array.getElem?_push,Array.size_push];(repeat' split) <;> first | rfl | (exfalso;omega) | simp_all)
 have HWV:=hid hwv
 simp only [List.replicate,List.toArray] at HWV
 have HLv:=h.below HB.out
 have HSZ:Hid (∀ w',But (fun _ => False) wv w' → Calls Tryz.prog 90 #[.pointer (some ⟨b2,0,none⟩)] w' fun ev w2 => ev = .returned (.int .u64 L.length) ∧ Below w'.heap.size w' w2):=hid (fun w' hb => rsize_any base b2 v L w' (HLv.below (hb.to_below (Nat.le_refl _) (fun _ _ q => q))))
 obtain ⟨A,cap,rfl,hcap⟩:=own_shape h.2.2.2.1
 obtain ⟨_,hsin,hsh⟩:=rlog_sin HLv
 have hL:=h.1.1
 have KB:Hid (∀ w',But (fun _ => False) wv w' → w'.cell? ⟨w.heap.size,0,none⟩ = some (.int .u64 0) ∧ w'.cell? ⟨w.heap.size,1,none⟩ = some (.int .u64 sz)):=hid (fun w' h => by
  have hr:=(h.same w.heap.size (by have:=HSV.out;omega) (fun q => q)).trans RX.out
  exact ⟨by rw [cell_of_row w' w.heap.size 0 _ 84 (0,0) hr];rfl,by rw [cell_of_row w' w.heap.size 1 _ 84 (0,0) hr];rfl⟩)
 have q1:decide ((sz:Int) < 0) = false:=by simp
 have q2:decide ((L.length:Int) < (sz:Int)) = true:=by simp;omega
 have q3:(L.length:Int) < (sz:Int):=by omega
 have PLAIN:Hid (∀ w,Calls Tryz.prog 91 #[] w fun ev w' => ev = .returned (.agg vf) ∧ Below w.heap.size w w'):=hid (fun w => by rw [← evf];exact wrong_any w)
 rw [evr,evf]
 clear hwv evr evf h HLv hL h1 hcap hsin h2 hsh
 obtain ⟨N,hN⟩:∃ N:Nat,L.length = N:=⟨_,rfl⟩
 rw [hN] at HSZ q2 q3
 clear hN
 go_enter Tryz.func60,Tryz.ntmps60
 go_upto_region 1 with fail
 rw [HWV.out]
 refine wp_region_held_drew (S:=But (fun _ => False) wv) (by kernel_rfl) (But.refl _ _).drew (fun hHeld => ?_)
 refine tk (i:=0) (v:=?v1) rfl ?y1 ?r1
 case y1 => (intro w hSw;(try dsimp only at hSw);go_simp;(try with_reducible rfl))
 try simp only [pu]
 refine tk (i:=1) (v:=?v2) rfl ?y2 ?r2
 case y2 => (intro w hSw;(try dsimp only at hSw);obtain ⟨z0,z1⟩:=KB.out w hSw;go_simp;(try with_reducible rfl))
 try simp only [pu]
 refine tk (i:=2) (v:=?v3) rfl ?y3 ?r3
 case y3 => (intro w hSw;(try dsimp only at hSw);go_simp;(try with_reducible rfl))
 try simp only [pu]
 refine tk (i:=3) (v:=?v4) rfl ?y4 ?r4
 case y4 => (intro w hSw;(try dsimp only at hSw);obtain ⟨z0,z1⟩:=KB.out w hSw;go_simp;(try with_reducible rfl))
 try simp only [pu]
 refine tk (i:=4) (v:=?v5) rfl ?y5 ?r5
 case y5 => (intro w hSw;(try dsimp only at hSw);go_simp;(try with_reducible rfl))
 try simp only [pu]
 refine tk (i:=5) (v:=?v6) rfl ?y6 ?r6
 case y6 => (intro w hSw;(try dsimp only at hSw);go_simp;(try with_reducible rfl))
 try simp only [pu]
 refine tk (i:=6) (v:=?v7) rfl ?y7 ?r7
 case y7 => (intro w hSw;(try dsimp only at hSw);go_simp;(try with_reducible rfl))
 try simp only [pu]
 refine tk (i:=7) (v:=?v8) rfl ?y8 ?r8
 case y8 => (intro w hSw;(try dsimp only at hSw);obtain ⟨z0,z1⟩:=KB.out w hSw;go_simp;(try with_reducible rfl))
 try simp only [pu]
 refine tk (i:=8) (v:=?v9) rfl ?y9 ?r9
 case y9 => (intro w hSw;(try dsimp only at hSw);go_simp;(try with_reducible rfl))
 try simp only [pu]
 refine wpAnyH_ready (rs:=[9]) (by kernel_rfl) (by simp) ?_
 refine AllReadyH.cons (i:=9) rfl (fun K2 hK2 => ?_) AllReadyH.nil
 go_simp
 go_at_call 90
 refine (HSZ.out wv.drew ((But.refl (fun _ => False) wv).drew)).mono ?_
 rintro ev w701 ⟨rfl,bw701⟩
 try go_wp2_with fail
 obtain ⟨Kw701,fw701⟩:=st_call ((But.refl (fun _ => False) wv).drew) bw701
 have Kw701:=hid Kw701
 have Tw701_0:=hid (fw701 _ _ (show wv.drew.heap[(w.heap.size+1)]? = _ from RV.out))
 have Tw701_1:=hid (fw701 _ _ (show wv.drew.heap[(w.heap.size+1+1)]? = _ from RF.out))
 clear bw701 fw701
 refine hK2.out _ _ Kw701.out (fun hHeld2 => ?_)
 clear hK2 K2
 try simp only [pu]
 refine tk (i:=10) (v:=?v10) rfl ?y10 ?r10
 case y10 => (intro w hSw;(try dsimp only at hSw);go_simp;(try with_reducible rfl))
 try simp only [pu]
 refine tk (i:=11) (v:=?v11) rfl ?y11 ?r11
 case y11 => (intro w hSw;(try dsimp only at hSw);go_simp;(try with_reducible rfl))
 try simp only [pu]
 refine wpAnyH_done (by kernel_rfl) ?_ _
 have KW:=hid Kw701.out
 have TA:=hid Tw701_0.out
 have TB:=hid Tw701_1.out
 obtain ⟨w1,hw1⟩:∃ x,w701 = x:=⟨_,rfl⟩
 rw [hw1] at KW TA TB ⊢
 clear hw1 hHeld hHeld2
 have HB1:Hid (Below w.heap.size w w1):=hid (HB.out.trans (KW.out.to_below HB.out.size (fun _ _ q => q)))
 go_wp2_with fail
 refine (PLAIN.out w1).mono ?_
 rintro ev w2 ⟨rfl,b2'⟩
 have TA2:Hid (w2.heap[(w.heap.size+1)]? = some (.cells (List.replicate 32 (Value.int .u8 0)).toArray 39 (0,0))):=hid ((b2'.block _ (Array.getElem?_eq_some_iff.1 TA.out).1).trans TA.out)
 have TB2:Hid (w2.heap[(w.heap.size+1+1)]? = some (.cells #[.int .i64 0,.int .i64 0] 52 (0,0))):=hid ((b2'.block _ (Array.getElem?_eq_some_iff.1 TB.out).1).trans TB.out)
 have HB2:Hid (Below w.heap.size w w2):=hid (HB1.out.trans (b2'.mono HB1.out.size))
 clear b2'
 go_wp2_with (first
  | (refine wpList_store_row rfl 39 _ _ rfl (w.heap.size+1) vr rfl (by rw [Hvr.out];rfl) 39 _ TA2.out Ivr.out (by rw [Zvr.out];rfl) Ovr.out ?_)
  | (refine wpList_store_row rfl 52 _ _ rfl (w.heap.size+1+1) vf rfl rfl 52 _ ((setRow_other _ _ _ _ (by omega)).trans TB2.out) Ivf.out (by rw [Zvf.out];rfl) Ovf.out ?_))
 refine bodyPost_ret (v:=.tuple #[.agg vr,.agg vf]) (results_row_row rfl _ _ (w.heap.size+1) (w.heap.size+1+1) 39 52 vr vf (0,0) (0,0) _ _ rfl ((setRow_other _ _ _ _ (by omega)).trans (setRow_heap _ _ _ _ _ _ TA2.out)) rfl (setRow_heap _ _ _ _ _ _ ((setRow_other _ _ _ _ (by omega)).trans TB2.out)) Tryz.underlying39 rfl Ivr.out Tryz.underlying52 rfl Ivf.out) rfl ⟨rfl,below_setRow (below_setRow HB2.out _ _ (by omega)) _ _ (by omega)⟩
theorem tree08_ok (base b2:Nat) (v:Value) (L:List ByteArray) (sz:Nat) (w:World) (h:RLogAt base b2 v L w) (h1:sz ≤ L.length) :
 Calls Tryz.prog 60 #[.pointer (some ⟨b2,0,none⟩),.agg #[.int .u64 0,.int .u64 sz]] w fun ev w' => ev = .returned (.tuple #[hv (treeB L 0 sz),faultV 0]) ∧ Below w.heap.size w w':=by
 obtain ⟨vf,evf,HVF,Zvf,Ivf,Ovf⟩:=fault_of 0
 obtain ⟨vr,evr,Hvr,Zvr,Ivr,Ovr⟩:=row_of (treeB L 0 sz) (treeB_len _ _ _)
 obtain ⟨wv,hwv⟩:∃ y,(((w.alloc (.cells #[.int .u64 0,.int .u64 (sz:Nat)] 84)).alloc (.cells (List.replicate 32 (Value.int .u8 0)).toArray 39)).alloc (.cells #[.int .i64 0,.int .i64 0] 52)) = y:=⟨_,rfl⟩
 have HB:Hid (Below w.heap.size w wv):=hid (by rw [← hwv];exact ((((Below.refl _ _).alloc (by simp;try omega) _).alloc (by simp;try omega) _).alloc (by simp;try omega) _))
 have HSV:Hid (wv.heap.size = w.heap.size+1+1+1):=hid (by rw [← hwv];simp)
 have RX:Hid (wv.heap[w.heap.size]? = some (.cells #[.int .u64 0,.int .u64 (sz:Nat)] 84 (0,0))):=hid (by rw [← hwv];simp only [World.alloc,Array.getElem?_push,Array.size_push];(repeat' split) <;> first | rfl | (exfalso;omega) | simp_all)
 have RV:Hid (wv.heap[(w.heap.size+1)]? = some (.cells (List.replicate 32 (Value.int .u8 0)).toArray 39 (0,0))):=hid (by rw [← hwv];simp only [World.alloc,Array.getElem?_push,Array.size_push];(repeat' split) <;> first | rfl | (exfalso;omega) | simp_all)
 have RF:Hid (wv.heap[(w.heap.size+1+1)]? = some (.cells #[.int .i64 0,.int .i64 0] 52 (0,0))):=hid (by rw [← hwv];simp only [World.alloc,Array.getElem?_push,Array.size_push];(repeat' split) <;> first | rfl | (exfalso;omega) | simp_all)
 have HWV:=hid hwv
 simp only [List.replicate,List.toArray] at HWV
 have HLv:=h.below HB.out
 have HSZ:Hid (∀ w',But (fun _ => False) wv w' → Calls Tryz.prog 90 #[.pointer (some ⟨b2,0,none⟩)] w' fun ev w2 => ev = .returned (.int .u64 L.length) ∧ Below w'.heap.size w' w2):=hid (fun w' hb => rsize_any base b2 v L w' (HLv.below (hb.to_below (Nat.le_refl _) (fun _ _ q => q))))
 obtain ⟨A,cap,rfl,hcap⟩:=own_shape h.2.2.2.1
 obtain ⟨_,hsin,hsh⟩:=rlog_sin HLv
 have hL:=h.1.1
 have KB:Hid (∀ w',But (fun _ => False) wv w' → w'.cell? ⟨w.heap.size,0,none⟩ = some (.int .u64 0) ∧ w'.cell? ⟨w.heap.size,1,none⟩ = some (.int .u64 sz)):=hid (fun w' h => by
  have hr:=(h.same w.heap.size (by have:=HSV.out;omega) (fun q => q)).trans RX.out
  exact ⟨by rw [cell_of_row w' w.heap.size 0 _ 84 (0,0) hr];rfl,by rw [cell_of_row w' w.heap.size 1 _ 84 (0,0) hr];rfl⟩)
 have KC:Hid (∀ w',But (fun k => k = w.heap.size+1 ∨ k = w.heap.size+1+1) wv w' → w'.cell? ⟨b2,0,none⟩ = some (.slice A L.length cap) ∧ w'.cell? ⟨w.heap.size,0,none⟩ = some (.int .u64 0) ∧ w'.cell? ⟨w.heap.size,1,none⟩ = some (.int .u64 sz)):=hid (fun w' hb => by
  have hr:=(hb.same w.heap.size (by have:=HSV.out;omega) (by omega)).trans RX.out
  have hb2:=h.lt
  refine ⟨?_,by rw [cell_of_row w' w.heap.size 0 _ 84 (0,0) hr];rfl,by rw [cell_of_row w' w.heap.size 1 _ 84 (0,0) hr];rfl⟩
  rw [cell_of_row w' b2 0 _ 46 (0,0) ((hb.same b2 HLv.lt (by omega)).trans HLv.2.2.1)];rfl)
 have HOK:=hid (show LogOk L from h.1)
 have HSI:=hid (sin_take hsin h1)
 have HMT:Hid (∀ w',But (fun k => k = w.heap.size+1 ∨ k = w.heap.size+1+1) wv w' → Calls Tryz.prog 45 #[.slice A sz cap] w' fun ev w2 => ev = .returned (.agg vr) ∧ Below w'.heap.size w' w2):=hid (fun w' hb => by
  have hs:SIn w' A sz cap (L.take sz):=by
   refine sin_keep HSI.out (fun g o hg => ?_)
   have hg2:g < w.heap.size:=by
    rcases hsh with ⟨q,_⟩ | ⟨g',q⟩
    ·rw [q] at hg;cases hg
    ·have:=h.2.2.2.1.lt g (by rw [hg];rfl);omega
   exact hb.same g (by have:=HSV.out;omega) (by omega)
  have:=mth08_any L HOK.out sz 0 sz cap A w' (Nat.le_refl _) (by omega) hs
  rw [Nat.zero_add] at this
  rw [show ((0:Nat):Int) = 0 from rfl,evr] at this
  exact this)
 have q1:decide ((sz:Int) < 0) = false:=by simp
 have q2:decide ((L.length:Int) < (sz:Int)) = false:=by simp;omega
 have q3:¬ (L.length:Int) < (sz:Int):=by omega
 have q4:(0:Int) ≤ sz:=by omega
 have q5:(sz:Int) ≤ cap:=by omega
 have q6:sz ≤ cap:=by omega
 have q7:(sz:Int) ≤ 1048576:=by omega
 have q8:sz ≤ 1048576:=by omega
 rw [evr,evf]
 clear hwv evr evf h HLv hL h1 hcap hsin
 rcases hsh with ⟨rfl,rfl⟩ | ⟨g,rfl⟩
 ·obtain rfl:sz = 0:=by omega
  simp only [show ((0:Nat):Int) = 0 from rfl] at *
  obtain ⟨N,hN⟩:∃ N:Nat,L.length = N:=⟨_,rfl⟩
  rw [hN] at HSZ q2 q3 KC
  clear hN
  go_enter Tryz.func60,Tryz.ntmps60
  go_upto_region 1 with fail
  rw [HWV.out]
  refine wp_region_held_drew (S:=But (fun _ => False) wv) (by kernel_rfl) (But.refl _ _).drew (fun hHeld => ?_)
  refine tk (i:=0) (v:=?v12) rfl ?y12 ?r12
  case y12 => (intro w hSw;(try dsimp only at hSw);go_simp;(try with_reducible rfl))
  try simp only [pu]
  refine tk (i:=1) (v:=?v13) rfl ?y13 ?r13
  case y13 => (intro w hSw;(try dsimp only at hSw);obtain ⟨z0,z1⟩:=KB.out w hSw;go_simp;(try with_reducible rfl))
  try simp only [pu]
  refine tk (i:=2) (v:=?v14) rfl ?y14 ?r14
  case y14 => (intro w hSw;(try dsimp only at hSw);go_simp;(try with_reducible rfl))
  try simp only [pu]
  refine tk (i:=3) (v:=?v15) rfl ?y15 ?r15
  case y15 => (intro w hSw;(try dsimp only at hSw);obtain ⟨z0,z1⟩:=KB.out w hSw;go_simp;(try with_reducible rfl))
  try simp only [pu]
  refine tk (i:=4) (v:=?v16) rfl ?y16 ?r16
  case y16 => (intro w hSw;(try dsimp only at hSw);go_simp;(try with_reducible rfl))
  try simp only [pu]
  refine tk (i:=5) (v:=?v17) rfl ?y17 ?r17
  case y17 => (intro w hSw;(try dsimp only at hSw);go_simp;(try with_reducible rfl))
  try simp only [pu]
  refine tk (i:=6) (v:=?v18) rfl ?y18 ?r18
  case y18 => (intro w hSw;(try dsimp only at hSw);go_simp;(try with_reducible rfl))
  try simp only [pu]
  refine tk (i:=7) (v:=?v19) rfl ?y19 ?r19
  case y19 => (intro w hSw;(try dsimp only at hSw);obtain ⟨z0,z1⟩:=KB.out w hSw;go_simp;(try with_reducible rfl))
  try simp only [pu]
  refine tk (i:=8) (v:=?v20) rfl ?y20 ?r20
  case y20 => (intro w hSw;(try dsimp only at hSw);go_simp;(try with_reducible rfl))
  try simp only [pu]
  refine wpAnyH_ready (rs:=[9]) (by kernel_rfl) (by simp) ?_
  refine AllReadyH.cons (i:=9) rfl (fun K2 hK2 => ?_) AllReadyH.nil
  go_simp
  go_at_call 90
  refine (HSZ.out wv.drew ((But.refl (fun _ => False) wv).drew)).mono ?_
  rintro ev w702 ⟨rfl,bw702⟩
  try go_wp2_with fail
  obtain ⟨Kw702,fw702⟩:=st_call ((But.refl (fun _ => False) wv).drew) bw702
  have Kw702:=hid Kw702
  have Tw702_0:=hid (fw702 _ _ (show wv.drew.heap[(w.heap.size+1)]? = _ from RV.out))
  have Tw702_1:=hid (fw702 _ _ (show wv.drew.heap[(w.heap.size+1+1)]? = _ from RF.out))
  clear bw702 fw702
  refine hK2.out _ _ Kw702.out (fun hHeld2 => ?_)
  clear hK2 K2
  try simp only [pu]
  refine tk (i:=10) (v:=?v21) rfl ?y21 ?r21
  case y21 => (intro w hSw;(try dsimp only at hSw);go_simp;(try with_reducible rfl))
  try simp only [pu]
  refine tk (i:=11) (v:=?v22) rfl ?y22 ?r22
  case y22 => (intro w hSw;(try dsimp only at hSw);go_simp;(try with_reducible rfl))
  try simp only [pu]
  refine wpAnyH_done (by kernel_rfl) ?_ _
  have KW:=hid Kw702.out
  have TA:=hid Tw702_0.out
  have TB:=hid Tw702_1.out
  obtain ⟨w1,hw1⟩:∃ x,w702 = x:=⟨_,rfl⟩
  rw [hw1] at KW TA TB ⊢
  clear hw1 hHeld hHeld2
  have KW2:Hid (But (fun k => k = w.heap.size+1 ∨ k = w.heap.size+1+1) wv w1):=hid (KW.out.mono (fun _ _ q => q.elim))
  have KC1:Hid (∀ w',But (fun k => k = w.heap.size+1 ∨ k = w.heap.size+1+1) w1 w' → w'.cell? ⟨b2,0,none⟩ = _ ∧ w'.cell? ⟨w.heap.size,0,none⟩ = some (.int .u64 0) ∧ w'.cell? ⟨w.heap.size,1,none⟩ = some (.int .u64 0)):=hid (fun w' hb => KC.out w' (KW2.out.trans hb))
  have hd2:(0:Int) - 0 = 0:=by omega
  go_wp2_with fail
  refine wp_region_held_drew (S:=But (fun k => k = w.heap.size+1 ∨ k = w.heap.size+1+1) w1) (by kernel_rfl) (But.refl _ _).drew (fun hHeld => ?_)
  refine tk (i:=0) (v:=?v23) rfl ?y23 ?r23
  case y23 => (intro w hSw;(try dsimp only at hSw);go_simp;(try with_reducible rfl))
  try simp only [pu]
  refine tk (i:=1) (v:=?v24) rfl ?y24 ?r24
  case y24 => (intro w hSw;(try dsimp only at hSw);go_simp;(try with_reducible rfl))
  try simp only [pu]
  refine tk (i:=2) (v:=?v25) rfl ?y25 ?r25
  case y25 => (intro w hSw;(try dsimp only at hSw);go_simp;(try with_reducible rfl))
  try simp only [pu]
  refine tk (i:=3) (v:=?v26) rfl ?y26 ?r26
  case y26 => (intro w hSw;(try dsimp only at hSw);obtain ⟨z0,z1,z2⟩:=KC1.out w hSw;go_simp;(try with_reducible rfl))
  try simp only [pu]
  refine tk (i:=4) (v:=?v27) rfl ?y27 ?r27
  case y27 => (intro w hSw;(try dsimp only at hSw);go_simp;(try with_reducible rfl))
  try simp only [pu]
  refine tk (i:=5) (v:=?v28) rfl ?y28 ?r28
  case y28 => (intro w hSw;(try dsimp only at hSw);obtain ⟨z0,z1,z2⟩:=KC1.out w hSw;go_simp;(try with_reducible rfl))
  try simp only [pu]
  refine tk (i:=6) (v:=?v29) rfl ?y29 ?r29
  case y29 => (intro w hSw;(try dsimp only at hSw);go_simp;(try with_reducible rfl))
  try simp only [pu]
  refine tk (i:=7) (v:=?v30) rfl ?y30 ?r30
  case y30 => (intro w hSw;(try dsimp only at hSw);obtain ⟨z0,z1,z2⟩:=KC1.out w hSw;go_simp;(try with_reducible rfl))
  try simp only [pu]
  refine tk (i:=8) (v:=?v31) rfl ?y31 ?r31
  case y31 => (intro w hSw;(try dsimp only at hSw);go_simp;(try with_reducible rfl))
  try simp only [pu]
  refine tk (i:=10) (v:=?v32) rfl ?y32 ?r32
  case y32 => (intro w hSw;(try dsimp only at hSw);go_simp;(try with_reducible rfl))
  try simp only [pu]
  refine wpAnyH_ready (rs:=[9]) (by kernel_rfl) (by simp) ?_
  refine AllReadyH.cons (i:=9) rfl (fun K2 hK2 => ?_) AllReadyH.nil
  go_simp
  go_at_call 45
  refine (HMT.out w1.drew (KW2.out.trans ((But.refl (fun k => k = w.heap.size+1 ∨ k = w.heap.size+1+1) w1).drew))).mono ?_
  rintro ev w703 ⟨rfl,bw703⟩
  try go_wp2_with fail
  obtain ⟨Kw703,fw703⟩:=st_call ((But.refl (fun k => k = w.heap.size+1 ∨ k = w.heap.size+1+1) w1).drew) bw703
  have Kw703:=hid Kw703
  have Tw703_0:=hid (fw703 _ _ (show w1.drew.heap[(w.heap.size+1)]? = _ from TA.out))
  have Tw703_1:=hid (fw703 _ _ (show w1.drew.heap[(w.heap.size+1+1)]? = _ from TB.out))
  clear bw703 fw703
  refine hK2.out _ _ Kw703.out (fun hHeld2 => ?_)
  clear hK2 K2
  try simp only [pu]
  refine wpAnyH_ready (rs:=[11]) (by kernel_rfl) (by simp) ?_
  refine AllReadyH.cons (i:=11) rfl (fun K2 hK2 => ?_) AllReadyH.nil
  rw [if_pos (by rfl)]
  refine wp_store_row 39 _ _ rfl (w.heap.size+1) vr rfl rfl 39 _ Tw703_0.out Ivr.out (by rw [Zvr.out];rfl) Ovr.out ?_
  obtain ⟨w704,hw704⟩:∃ x,w703.setRow (w.heap.size+1) vr = x:=⟨_,rfl⟩
  obtain ⟨Kw704,Tw704_0,fw704⟩:=st_row Kw703.out hw704 (fun _ => .inl rfl) Tw703_0.out
  have Kw704:=hid Kw704
  have Tw704_0:=hid Tw704_0
  have Tw704_1:=hid (fw704 _ _ (by omega) Tw703_1.out)
  clear fw704
  rw [hw704]
  clear hw704
  refine hK2.out _ _ Kw704.out (fun hHeld2 => ?_)
  clear hK2 K2
  try simp only [pu]
  refine wpAnyH_ready (rs:=[12]) (by kernel_rfl) (by simp) ?_
  refine AllReadyH.cons (i:=12) rfl (fun K2 hK2 => ?_) AllReadyH.nil
  rw [if_pos (by rfl)]
  refine wp_store_row 52 _ _ rfl (w.heap.size+1+1) vf rfl (by rw [HVF.out];rfl) 52 _ Tw704_1.out Ivf.out (by rw [Zvf.out];rfl) Ovf.out ?_
  obtain ⟨w705,hw705⟩:∃ x,w704.setRow (w.heap.size+1+1) vf = x:=⟨_,rfl⟩
  obtain ⟨Kw705,Tw705_1,fw705⟩:=st_row Kw704.out hw705 (fun _ => .inr rfl) Tw704_1.out
  have Kw705:=hid Kw705
  have Tw705_1:=hid Tw705_1
  have Tw705_0:=hid (fw705 _ _ (by omega) Tw704_0.out)
  clear fw705
  rw [hw705]
  clear hw705
  refine hK2.out _ _ Kw705.out (fun hHeld2 => ?_)
  clear hK2 K2
  try simp only [pu]
  refine wpAnyH_done (by kernel_rfl) ?_ _
  go_wp2
  refine bodyPost_ret (v:=.tuple #[.agg vr,.agg vf]) (results_row_row rfl _ _ (w.heap.size+1) (w.heap.size+1+1) 39 52 vr vf (0,0) (0,0) _ _ rfl Tw705_0.out rfl Tw705_1.out Tryz.underlying39 rfl Ivr.out Tryz.underlying52 rfl Ivf.out) rfl ⟨rfl,HB.out.trans (But.to_below (KW2.out.trans Kw705.out) HB.out.size (fun k hk q => by omega))⟩
 ·
  obtain ⟨N,hN⟩:∃ N:Nat,L.length = N:=⟨_,rfl⟩
  rw [hN] at HSZ q2 q3 KC
  clear hN
  go_enter Tryz.func60,Tryz.ntmps60
  go_upto_region 1 with fail
  rw [HWV.out]
  refine wp_region_held_drew (S:=But (fun _ => False) wv) (by kernel_rfl) (But.refl _ _).drew (fun hHeld => ?_)
  refine tk (i:=0) (v:=?v33) rfl ?y33 ?r33
  case y33 => (intro w hSw;(try dsimp only at hSw);go_simp;(try with_reducible rfl))
  try simp only [pu]
  refine tk (i:=1) (v:=?v34) rfl ?y34 ?r34
  case y34 => (intro w hSw;(try dsimp only at hSw);obtain ⟨z0,z1⟩:=KB.out w hSw;go_simp;(try with_reducible rfl))
  try simp only [pu]
  refine tk (i:=2) (v:=?v35) rfl ?y35 ?r35
  case y35 => (intro w hSw;(try dsimp only at hSw);go_simp;(try with_reducible rfl))
  try simp only [pu]
  refine tk (i:=3) (v:=?v36) rfl ?y36 ?r36
  case y36 => (intro w hSw;(try dsimp only at hSw);obtain ⟨z0,z1⟩:=KB.out w hSw;go_simp;(try with_reducible rfl))
  try simp only [pu]
  refine tk (i:=4) (v:=?v37) rfl ?y37 ?r37
  case y37 => (intro w hSw;(try dsimp only at hSw);go_simp;(try with_reducible rfl))
  try simp only [pu]
  refine tk (i:=5) (v:=?v38) rfl ?y38 ?r38
  case y38 => (intro w hSw;(try dsimp only at hSw);go_simp;(try with_reducible rfl))
  try simp only [pu]
  refine tk (i:=6) (v:=?v39) rfl ?y39 ?r39
  case y39 => (intro w hSw;(try dsimp only at hSw);go_simp;(try with_reducible rfl))
  try simp only [pu]
  refine tk (i:=7) (v:=?v40) rfl ?y40 ?r40
  case y40 => (intro w hSw;(try dsimp only at hSw);obtain ⟨z0,z1⟩:=KB.out w hSw;go_simp;(try with_reducible rfl))
  try simp only [pu]
  refine tk (i:=8) (v:=?v41) rfl ?y41 ?r41
  case y41 => (intro w hSw;(try dsimp only at hSw);go_simp;(try with_reducible rfl))
  try simp only [pu]
  refine wpAnyH_ready (rs:=[9]) (by kernel_rfl) (by simp) ?_
  refine AllReadyH.cons (i:=9) rfl (fun K2 hK2 => ?_) AllReadyH.nil
  go_simp
  go_at_call 90
  refine (HSZ.out wv.drew ((But.refl (fun _ => False) wv).drew)).mono ?_
  rintro ev w706 ⟨rfl,bw706⟩
  try go_wp2_with fail
  obtain ⟨Kw706,fw706⟩:=st_call ((But.refl (fun _ => False) wv).drew) bw706
  have Kw706:=hid Kw706
  have Tw706_0:=hid (fw706 _ _ (show wv.drew.heap[(w.heap.size+1)]? = _ from RV.out))
  have Tw706_1:=hid (fw706 _ _ (show wv.drew.heap[(w.heap.size+1+1)]? = _ from RF.out))
  clear bw706 fw706
  refine hK2.out _ _ Kw706.out (fun hHeld2 => ?_)
  clear hK2 K2
  try simp only [pu]
  refine tk (i:=10) (v:=?v42) rfl ?y42 ?r42
  case y42 => (intro w hSw;(try dsimp only at hSw);go_simp;(try with_reducible rfl))
  try simp only [pu]
  refine tk (i:=11) (v:=?v43) rfl ?y43 ?r43
  case y43 => (intro w hSw;(try dsimp only at hSw);go_simp;(try with_reducible rfl))
  try simp only [pu]
  refine wpAnyH_done (by kernel_rfl) ?_ _
  have KW:=hid Kw706.out
  have TA:=hid Tw706_0.out
  have TB:=hid Tw706_1.out
  obtain ⟨w1,hw1⟩:∃ x,w706 = x:=⟨_,rfl⟩
  rw [hw1] at KW TA TB ⊢
  clear hw1 hHeld hHeld2
  have KW2:Hid (But (fun k => k = w.heap.size+1 ∨ k = w.heap.size+1+1) wv w1):=hid (KW.out.mono (fun _ _ q => q.elim))
  have KC1:Hid (∀ w',But (fun k => k = w.heap.size+1 ∨ k = w.heap.size+1+1) w1 w' → w'.cell? ⟨b2,0,none⟩ = _ ∧ w'.cell? ⟨w.heap.size,0,none⟩ = some (.int .u64 0) ∧ w'.cell? ⟨w.heap.size,1,none⟩ = some (.int .u64 sz)):=hid (fun w' hb => KC.out w' (KW2.out.trans hb))
  have hd2:(sz:Int) - 0 = sz:=by omega
  go_wp2_with fail
  refine wp_region_held_drew (S:=But (fun k => k = w.heap.size+1 ∨ k = w.heap.size+1+1) w1) (by kernel_rfl) (But.refl _ _).drew (fun hHeld => ?_)
  refine tk (i:=0) (v:=?v44) rfl ?y44 ?r44
  case y44 => (intro w hSw;(try dsimp only at hSw);go_simp;(try with_reducible rfl))
  try simp only [pu]
  refine tk (i:=1) (v:=?v45) rfl ?y45 ?r45
  case y45 => (intro w hSw;(try dsimp only at hSw);go_simp;(try with_reducible rfl))
  try simp only [pu]
  refine tk (i:=2) (v:=?v46) rfl ?y46 ?r46
  case y46 => (intro w hSw;(try dsimp only at hSw);go_simp;(try with_reducible rfl))
  try simp only [pu]
  refine tk (i:=3) (v:=?v47) rfl ?y47 ?r47
  case y47 => (intro w hSw;(try dsimp only at hSw);obtain ⟨z0,z1,z2⟩:=KC1.out w hSw;go_simp;(try with_reducible rfl))
  try simp only [pu]
  refine tk (i:=4) (v:=?v48) rfl ?y48 ?r48
  case y48 => (intro w hSw;(try dsimp only at hSw);go_simp;(try with_reducible rfl))
  try simp only [pu]
  refine tk (i:=5) (v:=?v49) rfl ?y49 ?r49
  case y49 => (intro w hSw;(try dsimp only at hSw);obtain ⟨z0,z1,z2⟩:=KC1.out w hSw;go_simp;(try with_reducible rfl))
  try simp only [pu]
  refine tk (i:=6) (v:=?v50) rfl ?y50 ?r50
  case y50 => (intro w hSw;(try dsimp only at hSw);go_simp;(try with_reducible rfl))
  try simp only [pu]
  refine tk (i:=7) (v:=?v51) rfl ?y51 ?r51
  case y51 => (intro w hSw;(try dsimp only at hSw);obtain ⟨z0,z1,z2⟩:=KC1.out w hSw;go_simp;(try with_reducible rfl))
  try simp only [pu]
  refine tk (i:=8) (v:=?v52) rfl ?y52 ?r52
  case y52 => (intro w hSw;(try dsimp only at hSw);go_simp;(try with_reducible rfl))
  try simp only [pu]
  refine tk (i:=10) (v:=?v53) rfl ?y53 ?r53
  case y53 => (intro w hSw;(try dsimp only at hSw);go_simp;(try with_reducible rfl))
  try simp only [pu]
  refine wpAnyH_ready (rs:=[9]) (by kernel_rfl) (by simp) ?_
  refine AllReadyH.cons (i:=9) rfl (fun K2 hK2 => ?_) AllReadyH.nil
  go_simp
  go_at_call 45
  refine (HMT.out w1.drew (KW2.out.trans ((But.refl (fun k => k = w.heap.size+1 ∨ k = w.heap.size+1+1) w1).drew))).mono ?_
  rintro ev w707 ⟨rfl,bw707⟩
  try go_wp2_with fail
  obtain ⟨Kw707,fw707⟩:=st_call ((But.refl (fun k => k = w.heap.size+1 ∨ k = w.heap.size+1+1) w1).drew) bw707
  have Kw707:=hid Kw707
  have Tw707_0:=hid (fw707 _ _ (show w1.drew.heap[(w.heap.size+1)]? = _ from TA.out))
  have Tw707_1:=hid (fw707 _ _ (show w1.drew.heap[(w.heap.size+1+1)]? = _ from TB.out))
  clear bw707 fw707
  refine hK2.out _ _ Kw707.out (fun hHeld2 => ?_)
  clear hK2 K2
  try simp only [pu]
  refine wpAnyH_ready (rs:=[11]) (by kernel_rfl) (by simp) ?_
  refine AllReadyH.cons (i:=11) rfl (fun K2 hK2 => ?_) AllReadyH.nil
  rw [if_pos (by rfl)]
  refine wp_store_row 39 _ _ rfl (w.heap.size+1) vr rfl rfl 39 _ Tw707_0.out Ivr.out (by rw [Zvr.out];rfl) Ovr.out ?_
  obtain ⟨w708,hw708⟩:∃ x,w707.setRow (w.heap.size+1) vr = x:=⟨_,rfl⟩
  obtain ⟨Kw708,Tw708_0,fw708⟩:=st_row Kw707.out hw708 (fun _ => .inl rfl) Tw707_0.out
  have Kw708:=hid Kw708
  have Tw708_0:=hid Tw708_0
  have Tw708_1:=hid (fw708 _ _ (by omega) Tw707_1.out)
  clear fw708
  rw [hw708]
  clear hw708
  refine hK2.out _ _ Kw708.out (fun hHeld2 => ?_)
  clear hK2 K2
  try simp only [pu]
  refine wpAnyH_ready (rs:=[12]) (by kernel_rfl) (by simp) ?_
  refine AllReadyH.cons (i:=12) rfl (fun K2 hK2 => ?_) AllReadyH.nil
  rw [if_pos (by rfl)]
  refine wp_store_row 52 _ _ rfl (w.heap.size+1+1) vf rfl (by rw [HVF.out];rfl) 52 _ Tw708_1.out Ivf.out (by rw [Zvf.out];rfl) Ovf.out ?_
  obtain ⟨w709,hw709⟩:∃ x,w708.setRow (w.heap.size+1+1) vf = x:=⟨_,rfl⟩
  obtain ⟨Kw709,Tw709_1,fw709⟩:=st_row Kw708.out hw709 (fun _ => .inr rfl) Tw708_1.out
  have Kw709:=hid Kw709
  have Tw709_1:=hid Tw709_1
  have Tw709_0:=hid (fw709 _ _ (by omega) Tw708_0.out)
  clear fw709
  rw [hw709]
  clear hw709
  refine hK2.out _ _ Kw709.out (fun hHeld2 => ?_)
  clear hK2 K2
  try simp only [pu]
  refine wpAnyH_done (by kernel_rfl) ?_ _
  go_wp2
  refine bodyPost_ret (v:=.tuple #[.agg vr,.agg vf]) (results_row_row rfl _ _ (w.heap.size+1) (w.heap.size+1+1) 39 52 vr vf (0,0) (0,0) _ _ rfl Tw709_0.out rfl Tw709_1.out Tryz.underlying39 rfl Ivr.out Tryz.underlying52 rfl Ivf.out) rfl ⟨rfl,HB.out.trans (But.to_below (KW2.out.trans Kw709.out) HB.out.size (fun k hk q => by omega))⟩
/- cartularyref08.Log.Root; cartularyref20.tree, halves. No condition. -/
theorem root08_ok (base b2:Nat) (v:Value) (L:List ByteArray) (sz:Nat) (w:World) (h:RLogAt base b2 v L w) (h1:sz ≤ L.length) :
 Calls Tryz.prog 28 #[.pointer (some ⟨b2,0,none⟩),.int .u64 sz] w fun ev w' => ev = .returned (.tuple #[hv (treeB L 0 sz),faultV 0]) ∧ Below w.heap.size w w':=by
 obtain ⟨vf,evf,HVF,Zvf,Ivf,Ovf⟩:=fault_of 0
 obtain ⟨vr,evr,Hvr,Zvr,Ivr,Ovr⟩:=row_of (treeB L 0 sz) (treeB_len _ _ _)
 obtain ⟨wv,hwv⟩:∃ y,((w.alloc (.cells (List.replicate 32 (Value.int .u8 0)).toArray 39)).alloc (.cells #[.int .i64 0,.int .i64 0] 52)) = y:=⟨_,rfl⟩
 have HB:Hid (Below w.heap.size w wv):=hid (by rw [← hwv];exact (((Below.refl _ _).alloc (by simp;try omega) _).alloc (by simp;try omega) _))
 have HSV:Hid (wv.heap.size = w.heap.size+1+1):=hid (by rw [← hwv];simp)
 have RV:Hid (wv.heap[w.heap.size]? = some (.cells (List.replicate 32 (Value.int .u8 0)).toArray 39 (0,0))):=hid (by rw [← hwv];simp only [World.alloc,Array.getElem?_push,Array.size_push];(repeat' split) <;> first | rfl | (exfalso;omega) | simp_all)
 have RF:Hid (wv.heap[(w.heap.size+1)]? = some (.cells #[.int .i64 0,.int .i64 0] 52 (0,0))):=hid (by rw [← hwv];simp only [World.alloc,Array.getElem?_push,Array.size_push];(repeat' split) <;> first | rfl | (exfalso;omega) | simp_all)
 have HWV:=hid hwv
 simp only [List.replicate,List.toArray] at HWV
 have HTR:Hid (Calls Tryz.prog 60 #[.pointer (some ⟨b2,0,none⟩),.agg #[.int .u64 0,.int .u64 sz]] wv fun ev w' => ev = .returned (.tuple #[.agg vr,.agg vf]) ∧ Below wv.heap.size wv w'):=hid (by
  rw [← evr,← evf]
  exact tree08_ok base b2 v L sz wv (h.below HB.out) h1)
 rw [evr,evf]
 clear hwv evr evf h h1
 go_enter Tryz.func28,Tryz.ntmps28
 go_upto_region 1 with fail
 rw [HWV.out]
 go_wp2_with fail
 refine HTR.out.mono ?_
 rintro ev w1 ⟨rfl,b1⟩
 have TA:Hid (w1.heap[w.heap.size]? = some (.cells (List.replicate 32 (Value.int .u8 0)).toArray 39 (0,0))):=hid ((b1.block _ (by have:=HSV.out;omega)).trans RV.out)
 have TB:Hid (w1.heap[w.heap.size+1]? = some (.cells #[.int .i64 0,.int .i64 0] 52 (0,0))):=hid ((b1.block _ (by have:=HSV.out;omega)).trans RF.out)
 have HB1:Hid (Below w.heap.size w w1):=hid (HB.out.trans (b1.mono HB.out.size))
 clear b1
 go_wp2_with (first
  | (refine wpList_store_row rfl 39 _ _ rfl w.heap.size vr rfl rfl 39 _ TA.out Ivr.out (by rw [Zvr.out];rfl) Ovr.out ?_)
  | (refine wpList_store_row rfl 52 _ _ rfl (w.heap.size+1) vf rfl rfl 52 _ ((setRow_other _ _ _ _ (by omega)).trans TB.out) Ivf.out (by rw [Zvf.out];rfl) Ovf.out ?_))
 refine bodyPost_ret (v:=.tuple #[.agg vr,.agg vf]) (results_row_row rfl _ _ w.heap.size (w.heap.size+1) 39 52 vr vf (0,0) (0,0) _ _ rfl ((setRow_other _ _ _ _ (by omega)).trans (setRow_heap _ _ _ _ _ _ TA.out)) rfl (setRow_heap _ _ _ _ _ _ ((setRow_other _ _ _ _ (by omega)).trans TB.out)) Tryz.underlying39 rfl Ivr.out Tryz.underlying52 rfl Ivf.out) rfl ⟨rfl,below_setRow (below_setRow HB1.out _ _ (by omega)) _ _ (by omega)⟩
theorem root08_bad (base b2:Nat) (v:Value) (L:List ByteArray) (sz:Nat) (w:World) (h:RLogAt base b2 v L w) (h1:L.length < sz) (h2:sz < 18446744073709551616) :
 Calls Tryz.prog 28 #[.pointer (some ⟨b2,0,none⟩),.int .u64 sz] w fun ev w' => ev = .returned (.tuple #[hv zeroH,faultV 5]) ∧ Below w.heap.size w w':=by
 obtain ⟨vf,evf,HVF,Zvf,Ivf,Ovf⟩:=fault_of 5
 obtain ⟨vr,evr,Hvr,Zvr,Ivr,Ovr⟩:=zero_row
 obtain ⟨wv,hwv⟩:∃ y,((w.alloc (.cells (List.replicate 32 (Value.int .u8 0)).toArray 39)).alloc (.cells #[.int .i64 0,.int .i64 0] 52)) = y:=⟨_,rfl⟩
 have HB:Hid (Below w.heap.size w wv):=hid (by rw [← hwv];exact (((Below.refl _ _).alloc (by simp;try omega) _).alloc (by simp;try omega) _))
 have HSV:Hid (wv.heap.size = w.heap.size+1+1):=hid (by rw [← hwv];simp)
 have RV:Hid (wv.heap[w.heap.size]? = some (.cells (List.replicate 32 (Value.int .u8 0)).toArray 39 (0,0))):=hid (by rw [← hwv];simp only [World.alloc,Array.getElem?_push,Array.size_push];(repeat' split) <;> first | rfl | (exfalso;omega) | simp_all)
 have RF:Hid (wv.heap[(w.heap.size+1)]? = some (.cells #[.int .i64 0,.int .i64 0] 52 (0,0))):=hid (by rw [← hwv];simp only [World.alloc,Array.getElem?_push,Array.size_push];(repeat' split) <;> first | rfl | (exfalso;omega) | simp_all)
 have HWV:=hid hwv
 simp only [List.replicate,List.toArray] at HWV
 have HTR:Hid (Calls Tryz.prog 60 #[.pointer (some ⟨b2,0,none⟩),.agg #[.int .u64 0,.int .u64 sz]] wv fun ev w' => ev = .returned (.tuple #[.agg vr,.agg vf]) ∧ Below wv.heap.size wv w'):=hid (by
  rw [← evr,← evf]
  exact tree08_bad base b2 v L sz wv (h.below HB.out) h1 h2)
 rw [evr,evf]
 clear hwv evr evf h h1 h2
 go_enter Tryz.func28,Tryz.ntmps28
 go_upto_region 1 with fail
 rw [HWV.out]
 go_wp2_with fail
 refine HTR.out.mono ?_
 rintro ev w1 ⟨rfl,b1⟩
 have TA:Hid (w1.heap[w.heap.size]? = some (.cells (List.replicate 32 (Value.int .u8 0)).toArray 39 (0,0))):=hid ((b1.block _ (by have:=HSV.out;omega)).trans RV.out)
 have TB:Hid (w1.heap[w.heap.size+1]? = some (.cells #[.int .i64 0,.int .i64 0] 52 (0,0))):=hid ((b1.block _ (by have:=HSV.out;omega)).trans RF.out)
 have HB1:Hid (Below w.heap.size w w1):=hid (HB.out.trans (b1.mono HB.out.size))
 clear b1
 go_wp2_with (first
  | (refine wpList_store_row rfl 39 _ _ rfl w.heap.size vr rfl rfl 39 _ TA.out Ivr.out (by rw [Zvr.out];rfl) Ovr.out ?_)
  | (refine wpList_store_row rfl 52 _ _ rfl (w.heap.size+1) vf rfl rfl 52 _ ((setRow_other _ _ _ _ (by omega)).trans TB.out) Ivf.out (by rw [Zvf.out];rfl) Ovf.out ?_))
 refine bodyPost_ret (v:=.tuple #[.agg vr,.agg vf]) (results_row_row rfl _ _ w.heap.size (w.heap.size+1) 39 52 vr vf (0,0) (0,0) _ _ rfl ((setRow_other _ _ _ _ (by omega)).trans (setRow_heap _ _ _ _ _ _ TA.out)) rfl (setRow_heap _ _ _ _ _ _ ((setRow_other _ _ _ _ (by omega)).trans TB.out)) Tryz.underlying39 rfl Ivr.out Tryz.underlying52 rfl Ivf.out) rfl ⟨rfl,below_setRow (below_setRow HB1.out _ _ (by omega)) _ _ (by omega)⟩
theorem tree20_any (base b2 G:Nat) (v:Value) (L:List ByteArray) (b e:Nat) (w:World) (h:RLogAt base b2 v L w) (hG:w.cell? ⟨G,0,none⟩ = some (.pointer (some ⟨b2,0,none⟩))) (h0:b < e) (h1:e ≤ L.length) :
 Calls Tryz.prog 66 #[.pointer (some ⟨G,0,none⟩),.agg #[.int .u64 b,.int .u64 e]] w fun ev w' => ev = .returned (hv (treeB L b e)) ∧ Below w.heap.size w w':=by
 obtain ⟨vr,evr,Hvr,Zvr,Ivr,Ovr⟩:=row_of (treeB L b e) (treeB_len _ _ _)
 obtain ⟨wv,hwv⟩:∃ y,((w.alloc (.cells #[.int .u64 (b:Nat),.int .u64 (e:Nat)] 84)).alloc (.cells (List.replicate 32 (Value.int .u8 0)).toArray 39)) = y:=⟨_,rfl⟩
 have HB:Hid (Below w.heap.size w wv):=hid (by rw [← hwv];exact (((Below.refl _ _).alloc (by simp;try omega) _).alloc (by simp;try omega) _))
 have HSV:Hid (wv.heap.size = w.heap.size+1+1):=hid (by rw [← hwv];simp)
 have RX:Hid (wv.heap[w.heap.size]? = some (.cells #[.int .u64 (b:Nat),.int .u64 (e:Nat)] 84 (0,0))):=hid (by rw [← hwv];simp only [World.alloc,Array.getElem?_push,Array.size_push];(repeat' split) <;> first | rfl | (exfalso;omega) | simp_all)
 have RV:Hid (wv.heap[(w.heap.size+1)]? = some (.cells (List.replicate 32 (Value.int .u8 0)).toArray 39 (0,0))):=hid (by rw [← hwv];simp only [World.alloc,Array.getElem?_push,Array.size_push];(repeat' split) <;> first | rfl | (exfalso;omega) | simp_all)
 have HWV:=hid hwv
 simp only [List.replicate,List.toArray] at HWV
 have HLv:=h.below HB.out
 obtain ⟨A,cap,rfl,hcap⟩:=own_shape h.2.2.2.1
 obtain ⟨_,hsin,hsh⟩:=rlog_sin HLv
 obtain ⟨g,rfl⟩:∃ g,A = some ⟨g,0,none⟩:=by
  rcases hsh with ⟨q1,q2⟩ | q
  ·omega
  ·exact q
 have hL:=h.1.1
 have hgl:=(h.2.2.2.1.lt g rfl).2
 have hbl:=block_of_cell hG
 have hb2:=h.lt
 have KC:Hid (∀ w',But (fun k => k = w.heap.size+1) wv w' → w'.cell? ⟨G,0,none⟩ = some (.pointer (some ⟨b2,0,none⟩)) ∧ w'.cell? ⟨b2,0,none⟩ = some (.slice (some ⟨g,0,none⟩) L.length cap) ∧ w'.cell? ⟨w.heap.size,0,none⟩ = some (.int .u64 b) ∧ w'.cell? ⟨w.heap.size,1,none⟩ = some (.int .u64 e)):=hid (fun w' hb => by
  have hr:=(hb.same w.heap.size (by have:=HSV.out;omega) (by omega)).trans RX.out
  refine ⟨?_,?_,by rw [cell_of_row w' w.heap.size 0 _ 84 (0,0) hr];rfl,by rw [cell_of_row w' w.heap.size 1 _ 84 (0,0) hr];rfl⟩
  ·exact cell_block ((hb.same G (by have:=HSV.out;omega) (by omega)).trans (HB.out.block G hbl)) hG
  ·rw [cell_of_row w' b2 0 _ 46 (0,0) ((hb.same b2 HLv.lt (by omega)).trans HLv.2.2.1)];rfl)
 have HOK:=hid (show LogOk L from h.1)
 have hs1:=sin_drop hsin (k:=b) (by omega)
 have hs2:=sin_take hs1 (k:=e - b) (by omega)
 have HSI:=hid hs2
 have HMT:Hid (∀ w',But (fun k => k = w.heap.size+1) wv w' → Calls Tryz.prog 45 #[.slice (some ⟨g,b,none⟩) (e - b) (cap - b)] w' fun ev w2 => ev = .returned (.agg vr) ∧ Below w'.heap.size w' w2):=hid (fun w' hb => by
  have hs:SIn w' (some ⟨g,b,none⟩) (e - b) (cap - b) ((L.drop b).take (e - b)):=by
   have:=sin_keep HSI.out (fun g' o hg => by
    cases hg
    exact hb.same g (by have:=HSV.out;omega) (by omega))
   rwa [Nat.zero_add] at this
  have:=mth08_any L HOK.out (e - b) b (e - b) (cap - b) (some ⟨g,b,none⟩) w' (Nat.le_refl _) (by omega) hs
  rw [show b+(e - b) = e by omega,evr] at this
  exact this)
 obtain ⟨N,hN⟩:∃ N:Nat,L.length = N:=⟨_,rfl⟩
 rw [hN] at KC hcap h1 hL
 have q1:(b:Int) ≤ e:=by omega
 have q2:(e:Int) ≤ cap:=by omega
 have q3:(0:Int) ≤ b:=by omega
 have q4:(cap = b) = False:=by simp;omega
 have q5:b ≤ e:=by omega
 have q6:e ≤ cap:=by omega
 have q7:(e:Int) ≤ 1048576:=by omega
 have q8:(b:Int) ≤ 1048576:=by omega
 rw [evr]
 clear hwv evr h HLv hL hcap hsin hsh hs1 hs2 hN hgl hbl hb2 hG h1
 go_enter Tryz.func66,Tryz.ntmps66
 go_upto_region 1 with fail
 rw [HWV.out]
 refine wp_region_held_drew (S:=But (fun k => k = w.heap.size+1) wv) (by kernel_rfl) (But.refl _ _).drew (fun hHeld => ?_)
 refine tk (i:=0) (v:=?v1) rfl ?y1 ?r1
 case y1 => (intro w hSw;(try dsimp only at hSw);go_simp;(try with_reducible rfl))
 try simp only [pu]
 refine tk (i:=1) (v:=?v2) rfl ?y2 ?r2
 case y2 => (intro w hSw;(try dsimp only at hSw);go_simp;(try with_reducible rfl))
 try simp only [pu]
 refine tk (i:=2) (v:=?v3) rfl ?y3 ?r3
 case y3 => (intro w hSw;(try dsimp only at hSw);go_simp;(try with_reducible rfl))
 try simp only [pu]
 refine tk (i:=3) (v:=?v4) rfl ?y4 ?r4
 case y4 => (intro w hSw;(try dsimp only at hSw);obtain ⟨z0,z1,z2,z3⟩:=KC.out w hSw;go_simp;(try with_reducible rfl))
 try simp only [pu]
 refine tk (i:=4) (v:=?v5) rfl ?y5 ?r5
 case y5 => (intro w hSw;(try dsimp only at hSw);go_simp;(try with_reducible rfl))
 try simp only [pu]
 refine tk (i:=5) (v:=?v6) rfl ?y6 ?r6
 case y6 => (intro w hSw;(try dsimp only at hSw);go_simp;(try with_reducible rfl))
 try simp only [pu]
 refine tk (i:=6) (v:=?v7) rfl ?y7 ?r7
 case y7 => (intro w hSw;(try dsimp only at hSw);obtain ⟨z0,z1,z2,z3⟩:=KC.out w hSw;go_simp;(try with_reducible rfl))
 try simp only [pu]
 refine tk (i:=7) (v:=?v8) rfl ?y8 ?r8
 case y8 => (intro w hSw;(try dsimp only at hSw);go_simp;(try with_reducible rfl))
 try simp only [pu]
 refine tk (i:=8) (v:=?v9) rfl ?y9 ?r9
 case y9 => (intro w hSw;(try dsimp only at hSw);obtain ⟨z0,z1,z2,z3⟩:=KC.out w hSw;go_simp;(try with_reducible rfl))
 try simp only [pu]
 refine tk (i:=9) (v:=?v10) rfl ?y10 ?r10
 case y10 => (intro w hSw;(try dsimp only at hSw);go_simp;(try with_reducible rfl))
 try simp only [pu]
 refine tk (i:=10) (v:=?v11) rfl ?y11 ?r11
 case y11 => (intro w hSw;(try dsimp only at hSw);obtain ⟨z0,z1,z2,z3⟩:=KC.out w hSw;go_simp;(try with_reducible rfl))
 try simp only [pu]
 refine tk (i:=11) (v:=?v12) rfl ?y12 ?r12
 case y12 => (intro w hSw;(try dsimp only at hSw);go_simp;(try with_reducible rfl))
 try simp only [pu]
 refine wpAnyH_ready (rs:=[12]) (by kernel_rfl) (by simp) ?_
 refine AllReadyH.cons (i:=12) rfl (fun K2 hK2 => ?_) AllReadyH.nil
 go_simp
 go_at_call 45
 refine (HMT.out wv.drew ((But.refl (fun k => k = w.heap.size+1) wv).drew)).mono ?_
 rintro ev w701 ⟨rfl,bw701⟩
 try go_wp2_with fail
 obtain ⟨Kw701,fw701⟩:=st_call ((But.refl (fun k => k = w.heap.size+1) wv).drew) bw701
 have Kw701:=hid Kw701
 have Tw701_0:=hid (fw701 _ _ (show wv.drew.heap[(w.heap.size+1)]? = _ from RV.out))
 clear bw701 fw701
 refine hK2.out _ _ Kw701.out (fun hHeld2 => ?_)
 clear hK2 K2
 try simp only [pu]
 refine wpAnyH_ready (rs:=[13]) (by kernel_rfl) (by simp) ?_
 refine AllReadyH.cons (i:=13) rfl (fun K2 hK2 => ?_) AllReadyH.nil
 rw [if_pos (by rfl)]
 refine wp_store_row 39 _ _ rfl (w.heap.size+1) vr rfl rfl 39 _ Tw701_0.out Ivr.out (by rw [Zvr.out];rfl) Ovr.out ?_
 obtain ⟨w702,hw702⟩:∃ x,w701.setRow (w.heap.size+1) vr = x:=⟨_,rfl⟩
 obtain ⟨Kw702,Tw702_0,fw702⟩:=st_row Kw701.out hw702 (fun _ => rfl) Tw701_0.out
 have Kw702:=hid Kw702
 have Tw702_0:=hid Tw702_0
 clear fw702
 rw [hw702]
 clear hw702
 refine hK2.out _ _ Kw702.out (fun hHeld2 => ?_)
 clear hK2 K2
 try simp only [pu]
 refine wpAnyH_done (by kernel_rfl) ?_ _
 go_wp2
 refine bodyPost_ret (v:=.agg vr) (results_cell_row rfl _ _ (w.heap.size+1) 39 vr (0,0) _ rfl Tw702_0.out Tryz.underlying39 rfl Ivr.out) rfl ⟨rfl,HB.out.trans (But.to_below Kw702.out HB.out.size (fun k hk q => by omega))⟩
theorem span_row (b e:Int):∃ v:Array Value,(.agg #[.int .u64 b,.int .u64 e]:Value) = .agg v ∧ Hid (v = #[.int .u64 b,.int .u64 e]) ∧ Hid (v.size = 2) ∧ Hid ((Tryz.prog.info? 84).map (·.size) = some v.size) ∧ Hid (v.all (·.oneCell') = true) :=
 ⟨_,rfl,hid rfl,hid rfl,hid (by kernel_rfl),hid (by simp [Value.oneCell'])⟩
theorem halves20_any (b e:Int) (w:World) (h0:0 ≤ b) (h1:2 ≤ e - b) (h2:e ≤ 9223372036854775808) :
 Calls Tryz.prog 64 #[.agg #[.int .u64 b,.int .u64 e]] w fun ev w' => ev = .returned (.tuple #[.agg #[.int .u64 b,.int .u64 (b+blwI (e - b))],.agg #[.int .u64 (b+blwI (e - b)),.int .u64 e]]) ∧ Below w.heap.size w w':=by
 have hb:=blwI_bd (n:=e - b) (by omega)
 have HSP:=hid (fun w' => refsplit_yes (e - b) w' h1 (by omega))
 obtain ⟨k,hk⟩:∃ k,blwI (e - b) = k:=⟨_,rfl⟩
 rw [hk] at hb HSP ⊢
 obtain ⟨m,hm⟩:∃ m,b+k = m:=⟨_,rfl⟩
 obtain ⟨va,eva,HVA,Zva,Iva,Ova⟩:=span_row b m
 obtain ⟨vb,evb,HVB,Zvb,Ivb,Ovb⟩:=span_row m e
 obtain ⟨wv,hwv⟩:∃ y,(((w.alloc (.cells #[.int .u64 b,.int .u64 e] 84)).alloc (.cells #[.int .u64 0,.int .u64 0] 84)).alloc (.cells #[.int .u64 0,.int .u64 0] 84)) = y:=⟨_,rfl⟩
 have HB:Hid (Below w.heap.size w wv):=hid (by rw [← hwv];exact ((((Below.refl _ _).alloc (by simp;try omega) _).alloc (by simp;try omega) _).alloc (by simp;try omega) _))
 have HSV:Hid (wv.heap.size = w.heap.size+1+1+1):=hid (by rw [← hwv];simp)
 have RX:Hid (wv.heap[w.heap.size]? = some (.cells #[.int .u64 b,.int .u64 e] 84 (0,0))):=hid (by rw [← hwv];simp only [World.alloc,Array.getElem?_push,Array.size_push];(repeat' split) <;> first | rfl | (exfalso;omega) | simp_all)
 have RA:Hid (wv.heap[(w.heap.size+1)]? = some (.cells #[.int .u64 0,.int .u64 0] 84 (0,0))):=hid (by rw [← hwv];simp only [World.alloc,Array.getElem?_push,Array.size_push];(repeat' split) <;> first | rfl | (exfalso;omega) | simp_all)
 have RB:Hid (wv.heap[(w.heap.size+1+1)]? = some (.cells #[.int .u64 0,.int .u64 0] 84 (0,0))):=hid (by rw [← hwv];simp only [World.alloc,Array.getElem?_push,Array.size_push];(repeat' split) <;> first | rfl | (exfalso;omega) | simp_all)
 have HWV:=hid hwv
 have KC:Hid (∀ w',But (fun k => k = w.heap.size+1 ∨ k = w.heap.size+1+1) wv w' → w'.cell? ⟨w.heap.size,0,none⟩ = some (.int .u64 b) ∧ w'.cell? ⟨w.heap.size,1,none⟩ = some (.int .u64 e)):=hid (fun w' hb => by
  have hr:=(hb.same w.heap.size (by have:=HSV.out;omega) (by omega)).trans RX.out
  exact ⟨by rw [cell_of_row w' w.heap.size 0 _ 84 (0,0) hr];rfl,by rw [cell_of_row w' w.heap.size 1 _ 84 (0,0) hr];rfl⟩)
 obtain ⟨c0,c1⟩:=KC.out wv (But.refl _ _)
 have hw:IntKind.u64.wrap (b+k) = m:=by rw [IntWalk.u64_in _ (by omega)];exact hm
 have hw2:IntKind.u64.wrap m = m:=IntWalk.u64_in _ (by omega)
 rw [hm,eva,evb]
 clear hwv eva evb hk
 go_enter Tryz.func64,Tryz.ntmps64
 go_upto_region 1 with fail
 rw [HWV.out]
 go_wp2_with fail
 refine (HSP.out wv).mono ?_
 rintro ev w0 ⟨rfl,rfl⟩
 go_wp2_with fail
 clear c0 c1
 refine wp_region_held_drew (S:=But (fun k => k = w.heap.size+1 ∨ k = w.heap.size+1+1) wv) (by kernel_rfl) (But.refl _ _).drew (fun hHeld => ?_)
 refine tk (i:=0) (v:=?v13) rfl ?y13 ?r13
 case y13 => (intro w hSw;(try dsimp only at hSw);go_simp;(try with_reducible rfl))
 try simp only [pu]
 refine tk (i:=1) (v:=?v14) rfl ?y14 ?r14
 case y14 => (intro w hSw;(try dsimp only at hSw);obtain ⟨z0,z1⟩:=KC.out w hSw;go_simp;(try with_reducible rfl))
 try simp only [pu]
 refine tk (i:=2) (v:=?v15) rfl ?y15 ?r15
 case y15 => (intro w hSw;(try dsimp only at hSw);go_simp;(try with_reducible rfl))
 try simp only [pu]
 refine tk (i:=3) (v:=?v16) rfl ?y16 ?r16
 case y16 => (intro w hSw;(try dsimp only at hSw);obtain ⟨z0,z1⟩:=KC.out w hSw;go_simp;(try with_reducible rfl))
 try simp only [pu]
 refine tk (i:=4) (v:=?v17) rfl ?y17 ?r17
 case y17 => (intro w hSw;(try dsimp only at hSw);go_simp;(try with_reducible rfl))
 try simp only [pu]
 refine tk (i:=5) (v:=?v18) rfl ?y18 ?r18
 case y18 => (intro w hSw;(try dsimp only at hSw);go_simp;(try with_reducible rfl))
 try simp only [pu]
 refine tk (i:=6) (v:=?v19) rfl ?y19 ?r19
 case y19 => (intro w hSw;(try dsimp only at hSw);go_simp;(try with_reducible rfl))
 try simp only [pu]
 refine tk (i:=7) (v:=?v20) rfl ?y20 ?r20
 case y20 => (intro w hSw;(try dsimp only at hSw);go_simp;(try with_reducible rfl))
 try simp only [pu]
 refine tk (i:=8) (v:=?v21) rfl ?y21 ?r21
 case y21 => (intro w hSw;(try dsimp only at hSw);obtain ⟨z0,z1⟩:=KC.out w hSw;go_simp;(try with_reducible rfl))
 try simp only [pu]
 refine tk (i:=9) (v:=?v22) rfl ?y22 ?r22
 case y22 => (intro w hSw;(try dsimp only at hSw);go_simp;(try with_reducible rfl))
 try simp only [pu]
 refine tk (i:=10) (v:=?v23) rfl ?y23 ?r23
 case y23 => (intro w hSw;(try dsimp only at hSw);go_simp;(try with_reducible rfl))
 try simp only [pu]
 refine tk (i:=11) (v:=?v24) rfl ?y24 ?r24
 case y24 => (intro w hSw;(try dsimp only at hSw);go_simp;(try with_reducible rfl))
 try simp only [pu]
 refine tk (i:=12) (v:=?v25) rfl ?y25 ?r25
 case y25 => (intro w hSw;(try dsimp only at hSw);obtain ⟨z0,z1⟩:=KC.out w hSw;go_simp;(try with_reducible rfl))
 try simp only [pu]
 refine tk (i:=13) (v:=?v26) rfl ?y26 ?r26
 case y26 => (intro w hSw;(try dsimp only at hSw);go_simp;(try with_reducible rfl))
 try simp only [pu]
 refine wpAnyH_ready (rs:=[14]) (by kernel_rfl) (by simp) ?_
 refine AllReadyH.cons (i:=14) rfl (fun K2 hK2 => ?_) AllReadyH.nil
 rw [if_pos (by rfl)]
 refine wp_store_row 84 _ _ rfl (w.heap.size+1) va rfl (by rw [HVA.out];rfl) 84 _ (show wv.drew.heap[(w.heap.size+1)]? = _ from RA.out) Iva.out (by rw [Zva.out];rfl) Ova.out ?_
 obtain ⟨w703,hw703⟩:∃ x,wv.drew.setRow (w.heap.size+1) va = x:=⟨_,rfl⟩
 obtain ⟨Kw703,Tw703_0,fw703⟩:=st_row ((But.refl (fun k => k = w.heap.size+1 ∨ k = w.heap.size+1+1) wv).drew) hw703 (fun _ => .inl rfl) (show wv.drew.heap[(w.heap.size+1)]? = _ from RA.out)
 have Kw703:=hid Kw703
 have Tw703_0:=hid Tw703_0
 have Tw703_1:=hid (fw703 _ _ (by omega) (show wv.drew.heap[(w.heap.size+1+1)]? = _ from RB.out))
 clear fw703
 rw [hw703]
 clear hw703
 refine hK2.out _ _ Kw703.out (fun hHeld2 => ?_)
 clear hK2 K2
 try simp only [pu]
 refine wpAnyH_ready (rs:=[15]) (by kernel_rfl) (by simp) ?_
 refine AllReadyH.cons (i:=15) rfl (fun K2 hK2 => ?_) AllReadyH.nil
 rw [if_pos (by rfl)]
 refine wp_store_row 84 _ _ rfl (w.heap.size+1+1) vb rfl (by rw [HVB.out];rfl) 84 _ Tw703_1.out Ivb.out (by rw [Zvb.out];rfl) Ovb.out ?_
 obtain ⟨w704,hw704⟩:∃ x,w703.setRow (w.heap.size+1+1) vb = x:=⟨_,rfl⟩
 obtain ⟨Kw704,Tw704_1,fw704⟩:=st_row Kw703.out hw704 (fun _ => .inr rfl) Tw703_1.out
 have Kw704:=hid Kw704
 have Tw704_1:=hid Tw704_1
 have Tw704_0:=hid (fw704 _ _ (by omega) Tw703_0.out)
 clear fw704
 rw [hw704]
 clear hw704
 refine hK2.out _ _ Kw704.out (fun hHeld2 => ?_)
 clear hK2 K2
 try simp only [pu]
 refine wpAnyH_done (by kernel_rfl) ?_ _
 go_wp2
 refine bodyPost_ret (v:=.tuple #[.agg va,.agg vb]) (results_row_row rfl _ _ (w.heap.size+1) (w.heap.size+1+1) 84 84 va vb (0,0) (0,0) _ _ rfl Tw704_0.out rfl Tw704_1.out Tryz.underlying84 rfl Iva.out Tryz.underlying84 rfl Ivb.out) rfl ⟨rfl,HB.out.trans (But.to_below Kw704.out HB.out.size (fun k hk q => by omega))⟩
/- cartularyref20.given: what is given; has. No condition. -/
theorem span_lits (p:Int × Int) (h:PB p) (f:Nat):Tryz.prog.keyLits (f+1+1) 84 (spanV p).cells.toList = some [.int .u64 p.1,.int .u64 p.2]:=by
 have hc:Tryz.prog.cellsOf 84 = 2:=by kernel_rfl
 have c2:Tryz.prog.cellsOf 23 = 1:=by kernel_rfl
 have w1:(Lit.int .u64 p.1).wf = true:=by have:=h.1;have:=h.2.1;simp [Lit.wf,IntKind.min,IntKind.max,IntKind.signed,IntKind.bits];omega
 have w2:(Lit.int .u64 p.2).wf = true:=by have:=h.2.2;simp [Lit.wf,IntKind.min,IntKind.max,IntKind.signed,IntKind.bits];omega
 have u1:=Tryz.underlying84
 have u3:=Tryz.underlying23
 have k1:Tryz.prog.keyLits (f+1) 23 [.int .u64 p.1] = some [.int .u64 p.1]:=by unfold Program.keyLits;simp only [u3];rw [if_pos ⟨trivial,w1⟩]
 have k2:Tryz.prog.keyLits (f+1) 23 [.int .u64 p.2] = some [.int .u64 p.2]:=by unfold Program.keyLits;simp only [u3];rw [if_pos ⟨trivial,w2⟩]
 unfold Program.keyLits
 simp only [u1,spanV,Value.cells,hc]
 simp [c2,k1,k2]
theorem span_eq (p q:Int × Int) (hp:PB p) (hq:PB q) (w:World):(Op.equalIn 10000 84 (spanV p) (spanV q)).run Tryz.prog w = .ok (decide (p = q)) w:=by
 have hd:=run_equalIn_deep (P:=Tryz.prog) (10000 - (236+1)) (236+1) 84 (by kernel_rfl)
 have hf:∀ t,(spanV t).formed Tryz.prog 84 = true:=fun t => by
  have u1:=Tryz.underlying84
  have hc:Tryz.prog.cellsOf 84 = 2:=by kernel_rfl
  unfold Value.formed;simp only [u1,spanV,hc];rfl
 obtain ⟨r,h1,h2⟩:=hd w (0+1+1) (0+1+1) (spanV p) (spanV q) _ _ (hf p) (hf q) (span_lits p hp 0) (span_lits q hq 0)
 have e:r = decide (p = q):=by
  rw [Bool.eq_iff_iff,h2]
  obtain ⟨a,b⟩:=p
  obtain ⟨x,y⟩:=q
  simp
 rw [← e];exact h1
structure Giv (base b2 G:Nat) (v:Value) (L:List ByteArray) (l:List (Int × Int)) (As:Option Addr) (cs:Nat) (P:List (List UInt8)) (A:Option Addr) (m c begin:Nat) (S:Option Addr) (n cap:Nat) (D:List ByteArray) (old:Nat) (b0:List UInt8) (sd:Int × Int → Option (List UInt8)) (w:World):Prop where
 rl:RLogAt base b2 v L w
 gl:G < w.heap.size
 c0:w.cell? ⟨G,0,none⟩ = some (.pointer (some ⟨b2,0,none⟩))
 c1:w.cell? ⟨G,1,none⟩ = some (.slice As m cs)
 c2:w.cell? ⟨G,2,none⟩ = some (.slice A m c)
 c3:w.cell? ⟨G,3,none⟩ = some (.int .u64 begin)
 c4:w.cell? ⟨G,4,none⟩ = some (.slice S n cap)
 c5:w.cell? ⟨G,5,none⟩ = some (.int .u64 old)
 bf:w.rangeAt G 6 (bytesV b0)
 sp:l = [] ∨ ∃ g,As = some ⟨g,0,none⟩ ∧ g < w.heap.size ∧ ∀ (j:Nat) u,(spanCells l)[j]? = some u → w.cell? ⟨g,j,none⟩ = some u
 hp:HIn w A m c P
 da:SIn w S n cap D
 ll:l.length = m
 lm:m ≤ 1000000000
 lb:∀ p ∈ l,PB p
 b32:b0.length = 32
 ol:old < 18446744073709551616
 bl:begin < 18446744073709551616
 small:∀ s ∈ D,s.size ≤ 99999999999
 sdl:∀ p,sd p = match firstL (l.zip P) p with | some h => some h | none => if 0 < old ∧ p = (0,(old:Int)) then some b0 else none
theorem Giv.below {base b2 G:Nat} {v:Value} {L:List ByteArray} {l:List (Int × Int)} {As:Option Addr} {cs:Nat} {P:List (List UInt8)} {A:Option Addr} {m c begin:Nat} {S:Option Addr} {n cap:Nat} {D:List ByteArray} {old:Nat} {b0:List UInt8} {sd:Int × Int → Option (List UInt8)} {w w':World} (h:Giv base b2 G v L l As cs P A m c begin S n cap D old b0 sd w) (hb:Below w.heap.size w w'):Giv base b2 G v L l As cs P A m c begin S n cap D old b0 sd w' :=
 ⟨h.rl.below hb,Nat.lt_of_lt_of_le h.gl hb.size,cell_below hb h.c0 h.gl,cell_below hb h.c1 h.gl,cell_below hb h.c2 h.gl,cell_below hb h.c3 h.gl,cell_below hb h.c4 h.gl,cell_below hb h.c5 h.gl,rangeAt_below hb h.bf h.gl,
  h.sp.imp id (fun ⟨g,q1,q2,q3⟩ => ⟨g,q1,Nat.lt_of_lt_of_le q2 hb.size,fun j u hu => cell_below hb (q3 j u hu) q2⟩),h.hp.below hb,h.da.below hb,h.ll,h.lm,h.lb,h.b32,h.ol,h.bl,h.small,h.sdl⟩
theorem Giv.len {base b2 G:Nat} {v:Value} {L:List ByteArray} {l:List (Int × Int)} {As:Option Addr} {cs:Nat} {P:List (List UInt8)} {A:Option Addr} {m c begin:Nat} {S:Option Addr} {n cap:Nat} {D:List ByteArray} {old:Nat} {b0:List UInt8} {sd:Int × Int → Option (List UInt8)} {w:World} (h:Giv base b2 G v L l As cs P A m c begin S n cap D old b0 sd w):∀ p x,sd p = some x → x.length = 32:=fun p x q => by
 rw [h.sdl] at q
 cases e:firstL (l.zip P) p with
 | some y =>
  rw [e] at q
  obtain rfl:=Option.some.inj q
  have:∀ (z:List ((Int × Int) × List UInt8)),(∀ u ∈ z,u.2.length = 32) → ∀ x,firstL z p = some x → x.length = 32:=by
   intro z
   induction z with
   | nil => intro _ x q;cases q
   | cons u r ih =>
    intro hz x q
    rw [firstL] at q
    split at q
    ·obtain rfl:=Option.some.inj q;exact hz u (by simp)
    ·exact ih (fun u hu => hz u (by simp [hu])) x q
  exact this _ (fun u hu => h.hp.1 _ (List.of_mem_zip hu).2) _ e
 | none =>
  rw [e] at q
  simp only at q
  split at q
  ·obtain rfl:=Option.some.inj q;exact h.b32
  ·cases q
theorem has20_any (base b2 G:Nat) (v:Value) (L:List ByteArray) (l:List (Int × Int)) (As:Option Addr) (cs:Nat) (P:List (List UInt8)) (A:Option Addr) (m c begin:Nat) (S:Option Addr) (n cap:Nat) (D:List ByteArray) (old:Nat) (b0:List UInt8) (sd:Int × Int → Option (List UInt8)) (b e:Int) (w:World) (h:Giv base b2 G v L l As cs P A m c begin S n cap D old b0 sd w) (hbe:PB (b,e)) :
 Calls Tryz.prog 69 #[.pointer (some ⟨G,0,none⟩),.agg #[.int .u64 b,.int .u64 e]] w fun ev w' => ev = .returned (.tuple #[hv ((sd (b,e)).getD zeroH),.bool (sd (b,e)).isSome]) ∧ Below w.heap.size w w':=by
 have HG:=hid h
 have HSDL:=hid h.sdl
 have HLEN:=hid h.ll
 have HPB:=hid hbe
 have hm9:=h.lm
 have hmc:=h.hp.2.2.1
 have hcs:m ≤ 1000000000:=hm9
 obtain ⟨wv,hwv⟩:∃ y,((w.alloc (.cells #[.int .u64 b,.int .u64 e] 84)).alloc (.cells (List.replicate 32 (Value.int .u8 0)).toArray 39)) = y:=⟨_,rfl⟩
 have HB:Hid (Below w.heap.size w wv):=hid (by rw [← hwv];exact (((Below.refl _ _).alloc (by simp;try omega) _).alloc (by simp;try omega) _))
 have HSV:Hid (wv.heap.size = w.heap.size+1+1):=hid (by rw [← hwv];simp)
 have RX:Hid (wv.heap[w.heap.size]? = some (.cells #[.int .u64 b,.int .u64 e] 84 (0,0))):=hid (by rw [← hwv];simp only [World.alloc,Array.getElem?_push,Array.size_push];(repeat' split) <;> first | rfl | (exfalso;omega) | simp_all)
 have RV:Hid (wv.heap[(w.heap.size+1)]? = some (.cells (List.replicate 32 (Value.int .u8 0)).toArray 39 (0,0))):=hid (by rw [← hwv];simp only [World.alloc,Array.getElem?_push,Array.size_push];(repeat' split) <;> first | rfl | (exfalso;omega) | simp_all)
 have HWV:=hid hwv
 simp only [List.replicate,List.toArray] at HWV
 obtain ⟨vx,evx,HVX,Zvx,Ivx,Ovx⟩:=span_row b e
 have HGv:=hid (h.below HB.out)
 have KC:Hid (∀ w',Below wv.heap.size wv w' → w'.cell? ⟨G,0,none⟩ = some (.pointer (some ⟨b2,0,none⟩)) ∧ w'.cell? ⟨G,1,none⟩ = some (.slice As m cs) ∧ w'.cell? ⟨G,2,none⟩ = some (.slice A m c) ∧ w'.cell? ⟨G,3,none⟩ = some (.int .u64 begin) ∧ w'.cell? ⟨G,4,none⟩ = some (.slice S n cap) ∧ w'.cell? ⟨G,5,none⟩ = some (.int .u64 old)):=hid (fun w' hb => by
  have q:=HGv.out.below hb
  exact ⟨q.c0,q.c1,q.c2,q.c3,q.c4,q.c5⟩)
 have hnl:l.length = m:=h.ll
 clear hwv h evx
 go_enter Tryz.func69,Tryz.ntmps69
 go_upto_region 1 with fail
 rw [HWV.out]
 go_wp2_with fail
 go_loopw [6] (fun i wr => ∃ k:Nat,k ≤ m ∧ i = .int .i64 k ∧ Hid (∀ j,j < k → l[j]? ≠ some (b,e)) ∧ Hid (Below wv.heap.size wv wr)) (fun i _ => m - (intOf i).toNat)
 case atStart => exact ⟨0,Nat.zero_le _,rfl,hid (fun j hj => by omega),hid (Below.refl _ _)⟩
 case round =>
  obtain ⟨k,hk,rfl,HSEEN,HBr⟩:=hrel
  obtain ⟨c0,c1,c2,c3,c4,c5⟩:=KC.out wr HBr.out
  have KCr:Hid (∀ w',But (fun _ => False) wr w' → w'.cell? ⟨G,0,none⟩ = some (.pointer (some ⟨b2,0,none⟩)) ∧ w'.cell? ⟨G,1,none⟩ = some (.slice As m cs) ∧ w'.cell? ⟨G,2,none⟩ = some (.slice A m c) ∧ w'.cell? ⟨G,3,none⟩ = some (.int .u64 begin) ∧ w'.cell? ⟨G,4,none⟩ = some (.slice S n cap) ∧ w'.cell? ⟨G,5,none⟩ = some (.int .u64 old)):=hid (fun w' hb => KC.out w' (HBr.out.trans ((hb.to_below (Nat.le_refl _) (fun _ _ q => q)).mono HBr.out.size)))
  have KX:Hid (∀ w',But (fun _ => False) wr w' → w'.heap[w.heap.size]? = some (.cells vx 84 (0,0))):=hid (fun w' hb => by
   have:Below wv.heap.size wv w':=HBr.out.trans ((hb.to_below (Nat.le_refl _) (fun _ _ q => q)).mono HBr.out.size)
   rw [HVX.out]
   exact (this.block _ (by have:=HSV.out;omega)).trans RX.out)
  by_cases hlt:k < m
  ·obtain ⟨⟨x0,x1⟩,hx⟩:∃ p,l[k]? = some p:=⟨_,List.getElem?_eq_getElem (by omega)⟩
   obtain ⟨y,hy⟩:∃ y,P[k]? = some y:=⟨_,List.getElem?_eq_getElem (by have:=HGv.out.hp.2.1;omega)⟩
   obtain ⟨g,hAs,hgl,hsc⟩:=HGv.out.sp.resolve_left (fun q => by rw [q] at hx;simp at hx)
   subst hAs
   have hat:=spanCells_at l k (x0,x1) hx
   obtain ⟨px,hpx⟩:∃ z,[Value.int .u64 x0,Value.int .u64 x1] = z:=⟨_,rfl⟩
   have HIP:Hid ((Tryz.prog.info? 84).map (·.size) = some px.length):=hid (by rw [← hpx];kernel_rfl)
   have KQ:Hid (∀ w',But (fun _ => False) wr w' → w'.rangeAt g (k * 2) px):=hid (fun w' hb => by
    have hbl:Below wv.heap.size wv w':=HBr.out.trans ((hb.to_below (Nat.le_refl _) (fun _ _ q => q)).mono HBr.out.size)
    rw [← hpx]
    intro j u hu
    match j,hu with
    | 0,hu => simp at hu;subst hu;have:=cell_below hbl (hsc _ _ hat.1) hgl;simpa [Nat.mul_comm] using this
    | 1,hu => simp at hu;subst hu;have:=cell_below hbl (hsc _ _ hat.2) hgl;simpa [Nat.mul_comm] using this
    | j+2,hu => simp at hu)
   have hqe:∀ w,(Op.equalIn 10000 84 (.agg px.toArray) (.agg vx)).run Tryz.prog w = .ok (decide ((x0,x1) = (b,e))) w:=fun w => by
    have:=span_eq (x0,x1) (b,e) (HGv.out.lb _ (List.mem_of_getElem? hx)) HPB.out w
    unfold spanV at this
    rw [← hpx,HVX.out];exact this
   have i0:(0:Int) ≤ k:=by omega
   have i1:(k:Int) < m:=by omega
   have HX:=hid hx
   have HY:=hid hy
   clear hat hsc hx hy hpx hgl
   by_cases hm:(x0,x1) = (b,e)
   ·have hd:decide ((x0,x1) = (b,e)) = true:=by simp [hm]
    rw [hd] at hqe
    have HYES:Hid (sd (b,e) = some y):=hid (by
     rw [HSDL.out,first_at HSEEN.out (by rw [HX.out,hm]) HY.out])
    obtain ⟨gh,oh,rfl,hgl,hr,yl⟩:=HGv.out.hp.row HY.out
    obtain ⟨vy,evy,Hvy,Zvy,Ivy,Ovy⟩:=row_of y yl
    obtain ⟨py,hpy⟩:∃ z,bytesV y = z:=⟨_,rfl⟩
    have HPY:Hid (py.toArray = vy):=hid (by rw [← hpy];exact Hvy.out)
    have HIY:Hid ((Tryz.prog.info? 39).map (·.size) = some py.length):=hid (by rw [← hpy,bytesV_length,yl];kernel_rfl)
    have KY:Hid (∀ w',Below wv.heap.size wv w' → w'.rangeAt gh (oh+k * 32) py):=hid (fun w' hb => by rw [← hpy];exact rangeAt_below hb hr hgl)
    have EVY:=hid evy
    clear hd hm hgl hr yl evy hpy
    go_wp2_with fail
    refine wp_region_held_drew (S:=But (fun _ => False) wr) (by kernel_rfl) (But.refl _ _).drew (fun hHeld => ?_)
    refine tk (i:=0) (v:=?v1) rfl ?y1 ?r1
    case y1 => (intro w hSw;(try dsimp only at hSw);go_simp;(try with_reducible rfl))
    try simp only [pu]
    refine tk (i:=1) (v:=?v2) rfl ?y2 ?r2
    case y2 => (intro w hSw;(try dsimp only at hSw);go_simp;(try with_reducible rfl))
    try simp only [pu]
    refine tk (i:=2) (v:=?v3) rfl ?y3 ?r3
    case y3 => (intro w hSw;(try dsimp only at hSw);go_simp;(try with_reducible rfl))
    try simp only [pu]
    refine tk (i:=3) (v:=?v4) rfl ?y4 ?r4
    case y4 => (intro w hSw;(try dsimp only at hSw);obtain ⟨z0,z1,z2,z3,z4,z5⟩:=KCr.out w hSw;go_simp;(try with_reducible rfl))
    try simp only [pu]
    refine tk (i:=4) (v:=?v5) rfl ?y5 ?r5
    case y5 => (intro w hSw;(try dsimp only at hSw);go_simp;(try with_reducible rfl))
    try simp only [pu]
    refine tk (i:=5) (v:=?v6) rfl ?y6 ?r6
    case y6 => (intro w hSw;(try dsimp only at hSw);go_simp;(try with_reducible rfl))
    try simp only [pu]
    refine tw (i:=6) rfl (yieldsIf_load_mid (by rfl) 84 _ (by rfl) g (k * 2) (by first | rfl | simp) px _ (fun w h => KQ.out w h) Tryz.underlying84 (by rfl) HIP.out) ?_
    try simp only [pu]
    refine tw (i:=7) rfl (yieldsIf_load_row (by rfl) 84 _ (by rfl) w.heap.size (by rfl) 84 vx (0,0) _ (fun w h => KX.out w h) Tryz.underlying84 rfl Ivx.out) ?_
    try simp only [pu]
    refine tk (i:=8) (v:=?v9) rfl ?y9 ?r9
    case y9 => (intro w hSw;(try dsimp only at hSw);go_simp;(try with_reducible rfl))
    try simp only [pu]
    refine wpAnyH_done (by kernel_rfl) ?_ _
    obtain ⟨wq,hwq⟩:∃ x,wr.drew = x:=⟨_,rfl⟩
    have HBq:Hid (Below wv.heap.size wv wq):=hid (by rw [← hwq];exact HBr.out.trans ((But.to_below ((But.refl (fun _ => False) wr).drew) (Nat.le_refl _) (fun _ _ q => q)).mono HBr.out.size))
    have RVq:Hid (wq.heap[(w.heap.size+1)]? = some (.cells (List.replicate 32 (Value.int .u8 0)).toArray 39 (0,0))):=hid ((HBq.out.block _ (by have:=HSV.out;omega)).trans RV.out)
    rw [hwq]
    clear hwq hHeld
    obtain ⟨d0,d1,d2,d3,d4,d5⟩:=KC.out wq HBq.out
    go_wp2_with (first
     | (refine wpList_load_mid rfl 39 _ rfl gh (oh+k * 32) (by first | rfl | simp) py _ (KY.out wq HBq.out) Tryz.underlying39 rfl HIY.out ?_;rw [HPY.out])
     | (refine wpList_store_row rfl 39 _ _ rfl (w.heap.size+1) vy rfl rfl 39 _ RVq.out Ivy.out (by rw [Zvy.out];rfl) Ovy.out ?_))
    refine bodyPost_ret (v:=.tuple #[.agg vy,.bool true]) (results_row_tmp rfl _ _ (w.heap.size+1) 39 vy (0,0) _ rfl (setRow_heap _ _ _ _ _ _ RVq.out) Tryz.underlying39 rfl Ivy.out _ rfl) rfl ⟨?_,below_setRow (HB.out.trans (HBq.out.mono HB.out.size)) _ _ (by omega)⟩
    rw [HYES.out,Option.getD_some,EVY.out];rfl
   ·have hd:decide ((x0,x1) = (b,e)) = false:=by simp only [decide_eq_false_iff_not];exact hm
    rw [hd] at hqe
    have HSEEN2:Hid (∀ j,j < k+1 → l[j]? ≠ some (b,e)):=hid (fun j hj => by
     rcases Nat.lt_or_ge j k with q | q
     ·exact HSEEN.out j q
     ·obtain rfl:j = k:=by omega
      rw [HX.out];exact fun q => hm (Option.some.inj q))
    clear hd hm
    go_wp2_with fail
    refine wp_region_held_drew (S:=But (fun _ => False) wr) (by kernel_rfl) (But.refl _ _).drew (fun hHeld => ?_)
    refine tk (i:=0) (v:=?v10) rfl ?y10 ?r10
    case y10 => (intro w hSw;(try dsimp only at hSw);go_simp;(try with_reducible rfl))
    try simp only [pu]
    refine tk (i:=1) (v:=?v11) rfl ?y11 ?r11
    case y11 => (intro w hSw;(try dsimp only at hSw);go_simp;(try with_reducible rfl))
    try simp only [pu]
    refine tk (i:=2) (v:=?v12) rfl ?y12 ?r12
    case y12 => (intro w hSw;(try dsimp only at hSw);go_simp;(try with_reducible rfl))
    try simp only [pu]
    refine tk (i:=3) (v:=?v13) rfl ?y13 ?r13
    case y13 => (intro w hSw;(try dsimp only at hSw);obtain ⟨z0,z1,z2,z3,z4,z5⟩:=KCr.out w hSw;go_simp;(try with_reducible rfl))
    try simp only [pu]
    refine tk (i:=4) (v:=?v14) rfl ?y14 ?r14
    case y14 => (intro w hSw;(try dsimp only at hSw);go_simp;(try with_reducible rfl))
    try simp only [pu]
    refine tk (i:=5) (v:=?v15) rfl ?y15 ?r15
    case y15 => (intro w hSw;(try dsimp only at hSw);go_simp;(try with_reducible rfl))
    try simp only [pu]
    refine tw (i:=6) rfl (yieldsIf_load_mid (by rfl) 84 _ (by rfl) g (k * 2) (by first | rfl | simp) px _ (fun w h => KQ.out w h) Tryz.underlying84 (by rfl) HIP.out) ?_
    try simp only [pu]
    refine tw (i:=7) rfl (yieldsIf_load_row (by rfl) 84 _ (by rfl) w.heap.size (by rfl) 84 vx (0,0) _ (fun w h => KX.out w h) Tryz.underlying84 rfl Ivx.out) ?_
    try simp only [pu]
    refine tk (i:=8) (v:=?v18) rfl ?y18 ?r18
    case y18 => (intro w hSw;(try dsimp only at hSw);go_simp;(try with_reducible rfl))
    try simp only [pu]
    refine wpAnyH_done (by kernel_rfl) ?_ _
    obtain ⟨wq,hwq⟩:∃ x,wr.drew = x:=⟨_,rfl⟩
    have HBq:Hid (Below wv.heap.size wv wq):=hid (by rw [← hwq];exact HBr.out.trans ((But.to_below ((But.refl (fun _ => False) wr).drew) (Nat.le_refl _) (fun _ _ q => q)).mono HBr.out.size))
    rw [hwq]
    clear hwq hHeld
    go_wp2_with fail
    go_roundw
    case rel => exact ⟨k+1,by omega,by go_num,HSEEN2,HBq⟩
    case measure => simp [intOf];omega
  ·obtain rfl:m = k:=by omega
   by_cases ho:0 < old
   ·have ho1:decide ((0:Int) < (old:Int)) = true:=by simp;omega
    have ho2:(0:Int) < (old:Int):=by omega
    have ho3:decide (0 < old) = true:=by simp;omega
    have ho4:0 < old:=ho
    obtain ⟨vo,hvo⟩:∃ z:Array Value,#[Value.int .u64 0,Value.int .u64 (old:Int)] = z:=⟨_,rfl⟩
    have hqe:∀ w,(Op.equalIn 10000 84 (.agg vx) (.agg #[Value.int .u64 0,Value.int .u64 (old:Int)])).run Tryz.prog w = .ok (decide ((b,e) = (0,(old:Int)))) w:=fun w => by
     have:=span_eq (b,e) (0,(old:Int)) HPB.out ⟨by omega,by omega,by omega,by have:=HGv.out.ol;omega⟩ w
     unfold spanV at this
     rw [HVX.out];exact this
    clear hvo
    by_cases hm:(b,e) = (0,(old:Int))
    ·have hd:decide ((b,e) = (0,(old:Int))) = true:=by simp [hm]
     rw [hd] at hqe
     have HYES:Hid (sd (b,e) = some b0):=hid (by
      rw [HSDL.out,first_no (fun j hj => HSEEN.out j (by have:=HLEN.out;omega))]
      simp only
      rw [if_pos ⟨ho,hm⟩])
     obtain ⟨vy,evy,Hvy,Zvy,Ivy,Ovy⟩:=row_of b0 HGv.out.b32
     obtain ⟨py,hpy⟩:∃ z,bytesV b0 = z:=⟨_,rfl⟩
     have HPY:Hid (py.toArray = vy):=hid (by rw [← hpy];exact Hvy.out)
     have HIY:Hid ((Tryz.prog.info? 39).map (·.size) = some py.length):=hid (by rw [← hpy,bytesV_length,HGv.out.b32];kernel_rfl)
     have KY:Hid (∀ w',Below wv.heap.size wv w' → w'.rangeAt G 6 py):=hid (fun w' hb => by rw [← hpy];exact rangeAt_below hb HGv.out.bf HGv.out.gl)
     have EVY:=hid evy
     clear hd hm evy hpy
     go_wp2_with fail
     refine wp_region_held_drew (S:=But (fun _ => False) wr) (by kernel_rfl) (But.refl _ _).drew (fun hHeld => ?_)
     refine tk (i:=0) (v:=?v19) rfl ?y19 ?r19
     case y19 => (intro w hSw;(try dsimp only at hSw);go_simp;(try with_reducible rfl))
     try simp only [pu]
     refine tk (i:=1) (v:=?v20) rfl ?y20 ?r20
     case y20 => (intro w hSw;(try dsimp only at hSw);go_simp;(try with_reducible rfl))
     try simp only [pu]
     refine tk (i:=2) (v:=?v21) rfl ?y21 ?r21
     case y21 => (intro w hSw;(try dsimp only at hSw);go_simp;(try with_reducible rfl))
     try simp only [pu]
     refine tk (i:=3) (v:=?v22) rfl ?y22 ?r22
     case y22 => (intro w hSw;(try dsimp only at hSw);obtain ⟨z0,z1,z2,z3,z4,z5⟩:=KCr.out w hSw;go_simp;(try with_reducible rfl))
     try simp only [pu]
     refine tk (i:=4) (v:=?v23) rfl ?y23 ?r23
     case y23 => (intro w hSw;(try dsimp only at hSw);go_simp;(try with_reducible rfl))
     try simp only [pu]
     refine tk (i:=5) (v:=?v24) rfl ?y24 ?r24
     case y24 => (intro w hSw;(try dsimp only at hSw);go_simp;(try with_reducible rfl))
     try simp only [pu]
     refine tw (i:=6) rfl (yieldsIf_load_row (by rfl) 84 _ (by rfl) w.heap.size (by rfl) 84 vx (0,0) _ (fun w h => KX.out w h) Tryz.underlying84 rfl Ivx.out) ?_
     try simp only [pu]
     refine tk (i:=7) (v:=?v26) rfl ?y26 ?r26
     case y26 => (intro w hSw;(try dsimp only at hSw);go_simp;(try with_reducible rfl))
     try simp only [pu]
     refine tk (i:=8) (v:=?v27) rfl ?y27 ?r27
     case y27 => (intro w hSw;(try dsimp only at hSw);go_simp;(try with_reducible rfl))
     try simp only [pu]
     refine tk (i:=9) (v:=?v28) rfl ?y28 ?r28
     case y28 => (intro w hSw;(try dsimp only at hSw);go_simp;(try with_reducible rfl))
     try simp only [pu]
     refine tk (i:=10) (v:=?v29) rfl ?y29 ?r29
     case y29 => (intro w hSw;(try dsimp only at hSw);obtain ⟨z0,z1,z2,z3,z4,z5⟩:=KCr.out w hSw;go_simp;(try with_reducible rfl))
     try simp only [pu]
     refine tk (i:=11) (v:=?v30) rfl ?y30 ?r30
     case y30 => (intro w hSw;(try dsimp only at hSw);go_simp;(try with_reducible rfl))
     try simp only [pu]
     refine tk (i:=12) (v:=?v31) rfl ?y31 ?r31
     case y31 => (intro w hSw;(try dsimp only at hSw);go_simp;(try with_reducible rfl))
     try simp only [pu]
     refine tk (i:=13) (v:=?v32) rfl ?y32 ?r32
     case y32 => (intro w hSw;(try dsimp only at hSw);go_simp;(try with_reducible rfl))
     try simp only [pu]
     refine wpAnyH_done (by kernel_rfl) ?_ _
     obtain ⟨wq,hwq⟩:∃ x,wr.drew = x:=⟨_,rfl⟩
     have HBq:Hid (Below wv.heap.size wv wq):=hid (by rw [← hwq];exact HBr.out.trans ((But.to_below ((But.refl (fun _ => False) wr).drew) (Nat.le_refl _) (fun _ _ q => q)).mono HBr.out.size))
     have RVq:Hid (wq.heap[(w.heap.size+1)]? = some (.cells (List.replicate 32 (Value.int .u8 0)).toArray 39 (0,0))):=hid ((HBq.out.block _ (by have:=HSV.out;omega)).trans RV.out)
     rw [hwq]
     clear hwq hHeld
     go_wp2_with (first
      | (refine wpList_load_mid rfl 39 _ rfl G 6 (by first | rfl | simp) py _ (KY.out wq HBq.out) Tryz.underlying39 rfl HIY.out ?_;rw [HPY.out])
      | (refine wpList_store_row rfl 39 _ _ rfl (w.heap.size+1) vy rfl rfl 39 _ RVq.out Ivy.out (by rw [Zvy.out];rfl) Ovy.out ?_))
     refine bodyPost_ret (v:=.tuple #[.agg vy,.bool true]) (results_row_tmp rfl _ _ (w.heap.size+1) 39 vy (0,0) _ rfl (setRow_heap _ _ _ _ _ _ RVq.out) Tryz.underlying39 rfl Ivy.out _ rfl) rfl ⟨?_,below_setRow (HB.out.trans (HBq.out.mono HB.out.size)) _ _ (by omega)⟩
     rw [HYES.out,Option.getD_some,EVY.out];rfl
    ·have hd:decide ((b,e) = (0,(old:Int))) = false:=by simp only [decide_eq_false_iff_not];exact hm
     rw [hd] at hqe
     have hno:¬ (0 < old ∧ (b,e) = (0,(old:Int))):=fun q => hm q.2
     clear hd hm
     go_wp2_with fail
     refine wp_region_held_drew (S:=But (fun _ => False) wr) (by kernel_rfl) (But.refl _ _).drew (fun hHeld => ?_)
     refine tk (i:=0) (v:=?v33) rfl ?y33 ?r33
     case y33 => (intro w hSw;(try dsimp only at hSw);go_simp;(try with_reducible rfl))
     try simp only [pu]
     refine tk (i:=1) (v:=?v34) rfl ?y34 ?r34
     case y34 => (intro w hSw;(try dsimp only at hSw);go_simp;(try with_reducible rfl))
     try simp only [pu]
     refine tk (i:=2) (v:=?v35) rfl ?y35 ?r35
     case y35 => (intro w hSw;(try dsimp only at hSw);go_simp;(try with_reducible rfl))
     try simp only [pu]
     refine tk (i:=3) (v:=?v36) rfl ?y36 ?r36
     case y36 => (intro w hSw;(try dsimp only at hSw);obtain ⟨z0,z1,z2,z3,z4,z5⟩:=KCr.out w hSw;go_simp;(try with_reducible rfl))
     try simp only [pu]
     refine tk (i:=4) (v:=?v37) rfl ?y37 ?r37
     case y37 => (intro w hSw;(try dsimp only at hSw);go_simp;(try with_reducible rfl))
     try simp only [pu]
     refine tk (i:=5) (v:=?v38) rfl ?y38 ?r38
     case y38 => (intro w hSw;(try dsimp only at hSw);go_simp;(try with_reducible rfl))
     try simp only [pu]
     refine tw (i:=6) rfl (yieldsIf_load_row (by rfl) 84 _ (by rfl) w.heap.size (by rfl) 84 vx (0,0) _ (fun w h => KX.out w h) Tryz.underlying84 rfl Ivx.out) ?_
     try simp only [pu]
     refine tk (i:=7) (v:=?v40) rfl ?y40 ?r40
     case y40 => (intro w hSw;(try dsimp only at hSw);go_simp;(try with_reducible rfl))
     try simp only [pu]
     refine tk (i:=8) (v:=?v41) rfl ?y41 ?r41
     case y41 => (intro w hSw;(try dsimp only at hSw);go_simp;(try with_reducible rfl))
     try simp only [pu]
     refine tk (i:=9) (v:=?v42) rfl ?y42 ?r42
     case y42 => (intro w hSw;(try dsimp only at hSw);go_simp;(try with_reducible rfl))
     try simp only [pu]
     refine tk (i:=10) (v:=?v43) rfl ?y43 ?r43
     case y43 => (intro w hSw;(try dsimp only at hSw);obtain ⟨z0,z1,z2,z3,z4,z5⟩:=KCr.out w hSw;go_simp;(try with_reducible rfl))
     try simp only [pu]
     refine tk (i:=11) (v:=?v44) rfl ?y44 ?r44
     case y44 => (intro w hSw;(try dsimp only at hSw);go_simp;(try with_reducible rfl))
     try simp only [pu]
     refine tk (i:=12) (v:=?v45) rfl ?y45 ?r45
     case y45 => (intro w hSw;(try dsimp only at hSw);go_simp;(try with_reducible rfl))
     try simp only [pu]
     refine tk (i:=13) (v:=?v46) rfl ?y46 ?r46
     case y46 => (intro w hSw;(try dsimp only at hSw);go_simp;(try with_reducible rfl))
     try simp only [pu]
     refine wpAnyH_done (by kernel_rfl) ?_ _
     obtain ⟨wq,hwq⟩:∃ x,wr.drew = x:=⟨_,rfl⟩
     have HBq:Hid (Below wv.heap.size wv wq):=hid (by rw [← hwq];exact HBr.out.trans ((But.to_below ((But.refl (fun _ => False) wr).drew) (Nat.le_refl _) (fun _ _ q => q)).mono HBr.out.size))
     have RVq:Hid (wq.heap[(w.heap.size+1)]? = some (.cells (List.replicate 32 (Value.int .u8 0)).toArray 39 (0,0))):=hid ((HBq.out.block _ (by have:=HSV.out;omega)).trans RV.out)
     rw [hwq]
     clear hwq hHeld
     have HNO:Hid (sd (b,e) = none):=hid (by
      rw [HSDL.out,first_no (fun j hj => HSEEN.out j (by have:=HLEN.out;omega))]
      simp only
      rw [if_neg hno])
     obtain ⟨vz,evz,Hvz,Zvz,Ivz,Ovz⟩:=zero_row
     have EVZ:=hid evz
     clear evz hno
     go_wp2_with (refine wpList_store_row rfl 39 _ _ rfl (w.heap.size+1) vz rfl (by rw [Hvz.out];rfl) 39 _ RVq.out Ivz.out (by rw [Zvz.out];rfl) Ovz.out ?_)
     refine bodyPost_ret (v:=.tuple #[.agg vz,.bool false]) (results_row_tmp rfl _ _ (w.heap.size+1) 39 vz (0,0) _ rfl (setRow_heap _ _ _ _ _ _ RVq.out) Tryz.underlying39 rfl Ivz.out _ rfl) rfl ⟨?_,below_setRow (HB.out.trans (HBq.out.mono HB.out.size)) _ _ (by omega)⟩
     rw [HNO.out,Option.getD_none,EVZ.out];rfl
   ·have ho1:decide ((0:Int) < (old:Int)) = false:=by simp;omega
    have hno:¬ (0 < old ∧ (b,e) = (0,(old:Int))):=fun q => ho q.1
    have ho3:decide (0 < old) = false:=by simp;omega
    clear ho
    go_wp2_with fail
    refine wp_region_held_drew (S:=But (fun _ => False) wr) (by kernel_rfl) (But.refl _ _).drew (fun hHeld => ?_)
    refine tk (i:=0) (v:=?v47) rfl ?y47 ?r47
    case y47 => (intro w hSw;(try dsimp only at hSw);go_simp;(try with_reducible rfl))
    try simp only [pu]
    refine tk (i:=1) (v:=?v48) rfl ?y48 ?r48
    case y48 => (intro w hSw;(try dsimp only at hSw);go_simp;(try with_reducible rfl))
    try simp only [pu]
    refine tk (i:=2) (v:=?v49) rfl ?y49 ?r49
    case y49 => (intro w hSw;(try dsimp only at hSw);go_simp;(try with_reducible rfl))
    try simp only [pu]
    refine tk (i:=3) (v:=?v50) rfl ?y50 ?r50
    case y50 => (intro w hSw;(try dsimp only at hSw);obtain ⟨z0,z1,z2,z3,z4,z5⟩:=KCr.out w hSw;go_simp;(try with_reducible rfl))
    try simp only [pu]
    refine tk (i:=4) (v:=?v51) rfl ?y51 ?r51
    case y51 => (intro w hSw;(try dsimp only at hSw);go_simp;(try with_reducible rfl))
    try simp only [pu]
    refine tk (i:=5) (v:=?v52) rfl ?y52 ?r52
    case y52 => (intro w hSw;(try dsimp only at hSw);go_simp;(try with_reducible rfl))
    try simp only [pu]
    refine ts (i:=6) rfl ?_
    try simp only [pu]
    refine ts (i:=7) rfl ?_
    try simp only [pu]
    refine ts (i:=8) rfl ?_
    try simp only [pu]
    refine ts (i:=9) rfl ?_
    try simp only [pu]
    refine ts (i:=10) rfl ?_
    try simp only [pu]
    refine ts (i:=11) rfl ?_
    try simp only [pu]
    refine ts (i:=12) rfl ?_
    try simp only [pu]
    refine tk (i:=13) (v:=?v60) rfl ?y60 ?r60
    case y60 => (intro w hSw;(try dsimp only at hSw);go_simp;(try with_reducible rfl))
    try simp only [pu]
    refine wpAnyH_done (by kernel_rfl) ?_ _
    obtain ⟨wq,hwq⟩:∃ x,wr.drew = x:=⟨_,rfl⟩
    have HBq:Hid (Below wv.heap.size wv wq):=hid (by rw [← hwq];exact HBr.out.trans ((But.to_below ((But.refl (fun _ => False) wr).drew) (Nat.le_refl _) (fun _ _ q => q)).mono HBr.out.size))
    have RVq:Hid (wq.heap[(w.heap.size+1)]? = some (.cells (List.replicate 32 (Value.int .u8 0)).toArray 39 (0,0))):=hid ((HBq.out.block _ (by have:=HSV.out;omega)).trans RV.out)
    rw [hwq]
    clear hwq hHeld
    have HNO:Hid (sd (b,e) = none):=hid (by
     rw [HSDL.out,first_no (fun j hj => HSEEN.out j (by have:=HLEN.out;omega))]
     simp only
     rw [if_neg hno])
    obtain ⟨vz,evz,Hvz,Zvz,Ivz,Ovz⟩:=zero_row
    have EVZ:=hid evz
    clear evz hno
    go_wp2_with (refine wpList_store_row rfl 39 _ _ rfl (w.heap.size+1) vz rfl (by rw [Hvz.out];rfl) 39 _ RVq.out Ivz.out (by rw [Zvz.out];rfl) Ovz.out ?_)
    refine bodyPost_ret (v:=.tuple #[.agg vz,.bool false]) (results_row_tmp rfl _ _ (w.heap.size+1) 39 vz (0,0) _ rfl (setRow_heap _ _ _ _ _ _ RVq.out) Tryz.underlying39 rfl Ivz.out _ rfl) rfl ⟨?_,below_setRow (HB.out.trans (HBq.out.mono HB.out.size)) _ _ (by omega)⟩
    rw [HNO.out,Option.getD_none,EVZ.out];rfl
end Go.Proofs.YtpdkpdpkggepcaaGreatDoor
