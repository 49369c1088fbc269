import Derived.Test.YtpdkpdpkggepcaaGreatDoorTwinHash
import Derived.Test.YtpdkpdpkggepcaaGreatDoorMem
import Derived.Test.YtpdkpdpkggepcaaGreatDoorRef20a
import Derived.Test.YtpdkpdpkggepcaaGreatDoorForgeClaim
import Derived.Test.YtpdkpdpkggepcaaGreatDoorForgePart
import Derived.MapKept
import Derived.OwnWalk
import Derived.ChangeKeysEq
/- cartularyref20.given.says: the hash of a stretch by the proof. No condition. -/
namespace Go.Proofs.YtpdkpdpkggepcaaGreatDoor
open Go.ChangeShapes Go.WideShapes Go.ChangeAt Go.RowKit
set_option maxRecDepth 100000
set_option maxHeartbeats 16000000
open Lib (hid)
set_option linter.unusedVariables false
theorem says20_said (base b2 G:Nat) (v:Value) (L:List ByteArray) (l:List (Int × Int)) (As:Option Addr) (cs:Nat) (P:List (List UInt8)) (A:Option Addr) (m c begin:Nat) (S:Option Addr) (n cap:Nat) (D:List ByteArray) (old:Nat) (b0:List UInt8) (sd:Int × Int → Option (List UInt8)) (b e:Int) (w:World) (h:Giv base b2 G v L l As cs P A m c begin S n cap D old b0 sd w) (hbe:PB (b,e)) (x:List UInt8) (hs:sd (b,e) = some x) :
 Calls Tryz.prog 70 #[.pointer (some ⟨G,0,none⟩),.agg #[.int .u64 b,.int .u64 e]] w fun ev w' => ev = .returned (hv x) ∧ Below w.heap.size w w':=by
 obtain ⟨wv,hwv⟩:∃ y,((w.alloc (.cells #[.int .u64 b,.int .u64 e] 84)).alloc (.cells (List.replicate 32 (Value.int .u8 0)).toArray 39)) = y:=⟨_,rfl⟩
 have HB:Hid (Below w.heap.size w wv):=hid (by rw [← hwv];exact (((Below.refl _ _).alloc (by simp;try omega) _).alloc (by simp;try omega) _))
 have HSV:Hid (wv.heap.size = w.heap.size+1+1):=hid (by rw [← hwv];simp)
 have RX:Hid (wv.heap[w.heap.size]? = some (.cells #[.int .u64 b,.int .u64 e] 84 (0,0))):=hid (by rw [← hwv];simp only [World.alloc,Array.getElem?_push,Array.size_push];(repeat' split) <;> first | rfl | (exfalso;omega) | simp_all)
 have RV:Hid (wv.heap[(w.heap.size+1)]? = some (.cells (List.replicate 32 (Value.int .u8 0)).toArray 39 (0,0))):=hid (by rw [← hwv];simp only [World.alloc,Array.getElem?_push,Array.size_push];(repeat' split) <;> first | rfl | (exfalso;omega) | simp_all)
 have HWV:=hid hwv
 simp only [List.replicate,List.toArray] at HWV
 obtain ⟨vx,evx,HVX,Zvx,Ivx,Ovx⟩:=span_row b e
 have HG:=hid h
 have HLEN:((sd (b,e)).getD zeroH).length = 32:=by
  cases q:sd (b,e) with
  | none => exact zeroH_length
  | some x => exact h.len _ _ q
 obtain ⟨vq,evq,Hvq,Zvq,Ivq,Ovq⟩:=row_of _ HLEN
 have HHAS:Hid (Calls Tryz.prog 69 #[.pointer (some ⟨G,0,none⟩),.agg vx] wv fun ev w' => ev = .returned (.tuple #[.agg vq,.bool (sd (b,e)).isSome]) ∧ Below wv.heap.size wv w'):=hid (by
  have:=has20_any base b2 G v L l As cs P A m c begin S n cap D old b0 sd b e wv (h.below HB.out) hbe
  rw [evx,evq] at this;exact this)
 have RXx:Hid (wv.heap[w.heap.size]? = some (.cells vx 84 (0,0))):=hid (by rw [HVX.out];exact RX.out)
 have EVQ:=hid evq
 have hsm:(sd (b,e)).isSome = true:=by rw [hs];rfl
 have HX:Hid (hv x = .agg vq):=hid (by rw [← evq,hs];rfl)
 rw [HX.out]
 clear hwv h evx evq hbe HLEN hs
 go_enter Tryz.func70,Tryz.ntmps70
 go_upto_region 1 with fail
 rw [HWV.out]
 go_wp2_with (refine wpList_load_row rfl 84 _ rfl w.heap.size rfl 84 vx (0,0) _ RXx.out Tryz.underlying84 rfl Ivx.out ?_)
 refine HHAS.out.mono ?_
 rw [hsm]
 rintro ev w1 ⟨rfl,b1⟩
 have B1:=hid b1
 have HS1:Hid (wv.heap.size ≤ w1.heap.size):=hid b1.size
 clear b1
 go_upto_region 2 with (refine wpList_store_row_any rfl 39 _ _ rfl w1.heap.size vq rfl rfl 39 _ (heap_at _ _ _ rfl) Ivq.out (by rw [Zvq.out];rfl) Ovq.out ?_;intro w2 hbN hgN hsN;have B12:Hid (Below w1.heap.size w1 w2):=hid (((Below.refl _ w1).alloc (Nat.le_refl _) _).trans (hbN.to_below (by simp) (fun k hk q => by omega)));have RQ:=hid hgN;clear hbN hgN hsN)
 have BV2:Hid (Below wv.heap.size wv w2):=hid (B1.out.trans (B12.out.mono HS1.out))
 have HB2:Hid (Below w.heap.size w w2):=hid (HB.out.trans (BV2.out.mono HB.out.size))
 have HV2:Hid (wv.heap.size ≤ w2.heap.size):=hid BV2.out.size
 have RX2:Hid (w2.heap[w.heap.size]? = some (.cells vx 84 (0,0))):=hid ((BV2.out.block _ (by have:=HSV.out;omega)).trans RXx.out)
 have HG2:=hid (HG.out.below HB2.out)
 have RV2:Hid (w2.heap[(w.heap.size+1)]? = some (.cells (List.replicate 32 (Value.int .u8 0)).toArray 39 (0,0))):=hid ((BV2.out.block _ (by have:=HSV.out;omega)).trans RV.out)
 go_wp2_with (first
  | (refine wpList_load_row rfl 39 _ rfl w1.heap.size rfl 39 vq (0,0) _ RQ.out Tryz.underlying39 rfl Ivq.out ?_)
  | (refine wpList_store_row rfl 39 _ _ rfl (w.heap.size+1) vq rfl rfl 39 _ RV2.out Ivq.out (by rw [Zvq.out];rfl) Ovq.out ?_))
 refine bodyPost_ret (v:=.agg vq) (results_cell_row rfl _ _ (w.heap.size+1) 39 vq (0,0) _ rfl (setRow_heap _ _ _ _ _ _ RV2.out) Tryz.underlying39 rfl Ivq.out) rfl ⟨rfl,below_setRow HB2.out _ _ (by omega)⟩
theorem says20_leaf (base b2 G:Nat) (v:Value) (L:List ByteArray) (l:List (Int × Int)) (As:Option Addr) (cs:Nat) (P:List (List UInt8)) (A:Option Addr) (m c begin:Nat) (S:Option Addr) (n cap:Nat) (D:List ByteArray) (old:Nat) (b0:List UInt8) (sd:Int × Int → Option (List UInt8)) (b e:Int) (w:World) (h:Giv base b2 G v L l As cs P A m c begin S n cap D old b0 sd w) (hbe:PB (b,e)) (hs:sd (b,e) = none) (h1:b < e) (h2:e - b < 2) (hin:(begin:Int) ≤ b ∧ b < begin+n) :
 Calls Tryz.prog 70 #[.pointer (some ⟨G,0,none⟩),.agg #[.int .u64 b,.int .u64 e]] w fun ev w' => ev = .returned (hv (claimLeaf D begin b)) ∧ Below w.heap.size w w':=by
 obtain ⟨wv,hwv⟩:∃ y,((w.alloc (.cells #[.int .u64 b,.int .u64 e] 84)).alloc (.cells (List.replicate 32 (Value.int .u8 0)).toArray 39)) = y:=⟨_,rfl⟩
 have HB:Hid (Below w.heap.size w wv):=hid (by rw [← hwv];exact (((Below.refl _ _).alloc (by simp;try omega) _).alloc (by simp;try omega) _))
 have HSV:Hid (wv.heap.size = w.heap.size+1+1):=hid (by rw [← hwv];simp)
 have RX:Hid (wv.heap[w.heap.size]? = some (.cells #[.int .u64 b,.int .u64 e] 84 (0,0))):=hid (by rw [← hwv];simp only [World.alloc,Array.getElem?_push,Array.size_push];(repeat' split) <;> first | rfl | (exfalso;omega) | simp_all)
 have RV:Hid (wv.heap[(w.heap.size+1)]? = some (.cells (List.replicate 32 (Value.int .u8 0)).toArray 39 (0,0))):=hid (by rw [← hwv];simp only [World.alloc,Array.getElem?_push,Array.size_push];(repeat' split) <;> first | rfl | (exfalso;omega) | simp_all)
 have HWV:=hid hwv
 simp only [List.replicate,List.toArray] at HWV
 obtain ⟨vx,evx,HVX,Zvx,Ivx,Ovx⟩:=span_row b e
 have HG:=hid h
 have HLEN:((sd (b,e)).getD zeroH).length = 32:=by
  cases q:sd (b,e) with
  | none => exact zeroH_length
  | some x => exact h.len _ _ q
 obtain ⟨vq,evq,Hvq,Zvq,Ivq,Ovq⟩:=row_of _ HLEN
 have HHAS:Hid (Calls Tryz.prog 69 #[.pointer (some ⟨G,0,none⟩),.agg vx] wv fun ev w' => ev = .returned (.tuple #[.agg vq,.bool (sd (b,e)).isSome]) ∧ Below wv.heap.size wv w'):=hid (by
  have:=has20_any base b2 G v L l As cs P A m c begin S n cap D old b0 sd b e wv (h.below HB.out) hbe
  rw [evx,evq] at this;exact this)
 have RXx:Hid (wv.heap[w.heap.size]? = some (.cells vx 84 (0,0))):=hid (by rw [HVX.out];exact RX.out)
 have EVQ:=hid evq
 have hsm:(sd (b,e)).isSome = false:=by rw [hs];rfl
 obtain ⟨t,ht⟩:∃ t:Nat,b - (begin:Int) = t:=⟨(b - begin).toNat,by omega⟩
 obtain ⟨d,hd⟩:∃ d,D[t]? = some d:=⟨_,List.getElem?_eq_getElem (by have:=h.da.1;omega)⟩
 obtain ⟨gs,os,rfl,hcs,hgs,_⟩:=h.da.at hd
 have hds:=h.small d (List.mem_of_getElem? hd)
 have hcl:D.getD (b - (begin:Int)).toNat ByteArray.empty = d:=by rw [ht,Int.toNat_natCast,List.getD_eq_getElem?_getD,hd];rfl
 have tn:t < n:=by omega
 have t1:IntKind.u64.wrap (t:Int) = t:=IntWalk.u64_in _ (by have:=h.da.2.2.2.2.1;omega)
 have t2:(t:Int) < n:=by omega
 have t3:(0:Int) ≤ t:=by omega
 have hnl:n ≤ 140737488355328:=h.da.2.2.2.2.1
 have hval:claimLeaf D begin b = leafH d:=by unfold claimLeaf;rw [hcl]
 obtain ⟨vr,evr,Hvr,Zvr,Ivr,Ovr⟩:=row_of (leafH d) (leafH_length _)
 rw [hval,evr]
 have HLF:Hid (∀ w',Calls Tryz.prog 30 #[.string d] w' fun ev w2 => ev = .returned (.agg vr) ∧ Below w'.heap.size w' w2):=hid (fun w' => by
  have:=refleaf_any d w' hds
  rw [evr] at this;exact this)
 have q1:(e - b == 1) = true:=by simp;omega
 have hb0:0 ≤ b:=hbe.1
 have he1:e < 18446744073709551616:=hbe.2.2.2
 have hsz:d.size ≤ 99999999999:=hds
 have HCS:=hid (And.intro hcs hgs)
 clear hwv h evx evq evr hbe HLEN hs hd hcl hds hval hcs
 go_enter Tryz.func70,Tryz.ntmps70
 go_upto_region 1 with fail
 rw [HWV.out]
 go_wp2_with (refine wpList_load_row rfl 84 _ rfl w.heap.size rfl 84 vx (0,0) _ RXx.out Tryz.underlying84 rfl Ivx.out ?_)
 refine HHAS.out.mono ?_
 rw [hsm]
 rintro ev w1 ⟨rfl,b1⟩
 have B1:=hid b1
 have HS1:Hid (wv.heap.size ≤ w1.heap.size):=hid b1.size
 clear b1
 go_upto_region 2 with (refine wpList_store_row_any rfl 39 _ _ rfl w1.heap.size vq rfl rfl 39 _ (heap_at _ _ _ rfl) Ivq.out (by rw [Zvq.out];rfl) Ovq.out ?_;intro w2 hbN hgN hsN;have B12:Hid (Below w1.heap.size w1 w2):=hid (((Below.refl _ w1).alloc (Nat.le_refl _) _).trans (hbN.to_below (by simp) (fun k hk q => by omega)));have RQ:=hid hgN;clear hbN hgN hsN)
 have BV2:Hid (Below wv.heap.size wv w2):=hid (B1.out.trans (B12.out.mono HS1.out))
 have HB2:Hid (Below w.heap.size w w2):=hid (HB.out.trans (BV2.out.mono HB.out.size))
 have HV2:Hid (wv.heap.size ≤ w2.heap.size):=hid BV2.out.size
 have RX2:Hid (w2.heap[w.heap.size]? = some (.cells vx 84 (0,0))):=hid ((BV2.out.block _ (by have:=HSV.out;omega)).trans RXx.out)
 have HG2:=hid (HG.out.below HB2.out)
 have RV2:Hid (w2.heap[(w.heap.size+1)]? = some (.cells (List.replicate 32 (Value.int .u8 0)).toArray 39 (0,0))):=hid ((BV2.out.block _ (by have:=HSV.out;omega)).trans RV.out)
 have x0:w2.cell? ⟨w.heap.size,0,none⟩ = some (.int .u64 b):=by rw [cell_of_row w2 w.heap.size 0 _ 84 (0,0) RX2.out,HVX.out];rfl
 have x1:w2.cell? ⟨w.heap.size,1,none⟩ = some (.int .u64 e):=by rw [cell_of_row w2 w.heap.size 1 _ 84 (0,0) RX2.out,HVX.out];rfl
 have KC:Hid (∀ w',But (fun k => k = w.heap.size+1) w2 w' → (w'.cell? ⟨G,0,none⟩ = some (.pointer (some ⟨b2,0,none⟩)) ∧ w'.cell? ⟨G,1,none⟩ = some (.slice As m cs) ∧ w'.cell? ⟨G,2,none⟩ = some (.slice A m c) ∧ w'.cell? ⟨G,3,none⟩ = some (.int .u64 begin) ∧ w'.cell? ⟨G,4,none⟩ = some (.slice (some ⟨gs,os,none⟩) n cap) ∧ w'.cell? ⟨G,5,none⟩ = some (.int .u64 old)) ∧ w'.cell? ⟨w.heap.size,0,none⟩ = some (.int .u64 b) ∧ w'.cell? ⟨w.heap.size,1,none⟩ = some (.int .u64 e)):=hid (fun w' hb => by
  have hbl:Below w.heap.size w w':=HB2.out.trans (hb.to_below HB2.out.size (fun k hk q => by omega))
  have q:=HG.out.below hbl
  have hr:=(hb.same w.heap.size (by have:=HSV.out;have:=HV2.out;omega) (by first | omega | exact fun q => q)).trans RX2.out
  exact ⟨⟨q.c0,q.c1,q.c2,q.c3,q.c4,q.c5⟩,by rw [cell_of_row w' w.heap.size 0 _ 84 (0,0) hr,HVX.out];rfl,by rw [cell_of_row w' w.heap.size 1 _ 84 (0,0) hr,HVX.out];rfl⟩)
 have hgs2:gs < w.heap.size:=hgs
 have KS:Hid (∀ w',But (fun k => k = w.heap.size+1) w2 w' → w'.cell? ⟨gs,os+t,none⟩ = some (.string d)):=hid (fun w' hb => cell_below (HB2.out.trans (hb.to_below HB2.out.size (fun k hk q => by omega))) HCS.out.1 HCS.out.2)
 go_wp2_with fail
 clear x0 x1
 refine wp_region_held_drew (S:=But (fun k => k = w.heap.size+1) w2) (by kernel_rfl) (But.refl _ _).drew (fun hHeld => ?_)
 refine tk (i:=0) (v:=?v1) rfl ?y1 ?r1
 case y1 => (intro w hSw;(try dsimp only at hSw);go_simp;(try with_reducible rfl))
 try simp only [pu]
 refine tk (i:=1) (v:=?v2) rfl ?y2 ?r2
 case y2 => (intro w hSw;(try dsimp only at hSw);go_simp;(try with_reducible rfl))
 try simp only [pu]
 refine tk (i:=2) (v:=?v3) rfl ?y3 ?r3
 case y3 => (intro w hSw;(try dsimp only at hSw);go_simp;(try with_reducible rfl))
 try simp only [pu]
 refine tk (i:=3) (v:=?v4) rfl ?y4 ?r4
 case y4 => (intro w hSw;(try dsimp only at hSw);obtain ⟨⟨z0,z1,z2,z3,z4,z5⟩,y0,y1⟩:=KC.out w hSw;go_simp;(try with_reducible rfl))
 try simp only [pu]
 refine tk (i:=4) (v:=?v5) rfl ?y5 ?r5
 case y5 => (intro w hSw;(try dsimp only at hSw);go_simp;(try with_reducible rfl))
 try simp only [pu]
 refine tk (i:=5) (v:=?v6) rfl ?y6 ?r6
 case y6 => (intro w hSw;(try dsimp only at hSw);obtain ⟨⟨z0,z1,z2,z3,z4,z5⟩,y0,y1⟩:=KC.out w hSw;go_simp;(try with_reducible rfl))
 try simp only [pu]
 refine tk (i:=6) (v:=?v7) rfl ?y7 ?r7
 case y7 => (intro w hSw;(try dsimp only at hSw);go_simp;(try with_reducible rfl))
 try simp only [pu]
 refine tk (i:=7) (v:=?v8) rfl ?y8 ?r8
 case y8 => (intro w hSw;(try dsimp only at hSw);go_simp;(try with_reducible rfl))
 try simp only [pu]
 refine tk (i:=8) (v:=?v9) rfl ?y9 ?r9
 case y9 => (intro w hSw;(try dsimp only at hSw);go_simp;(try with_reducible rfl))
 try simp only [pu]
 refine tk (i:=9) (v:=?v10) rfl ?y10 ?r10
 case y10 => (intro w hSw;(try dsimp only at hSw);obtain ⟨⟨z0,z1,z2,z3,z4,z5⟩,y0,y1⟩:=KC.out w hSw;go_simp;(try with_reducible rfl))
 try simp only [pu]
 refine tk (i:=10) (v:=?v11) rfl ?y11 ?r11
 case y11 => (intro w hSw;(try dsimp only at hSw);go_simp;(try with_reducible rfl))
 try simp only [pu]
 refine tk (i:=11) (v:=?v12) rfl ?y12 ?r12
 case y12 => (intro w hSw;(try dsimp only at hSw);go_simp;(try with_reducible rfl))
 try simp only [pu]
 refine tk (i:=12) (v:=?v13) rfl ?y13 ?r13
 case y13 => (intro w hSw;(try dsimp only at hSw);have z9:=KS.out w hSw;go_simp;(try with_reducible rfl))
 try simp only [pu]
 refine wpAnyH_ready (rs:=[13]) (by kernel_rfl) (by simp) ?_
 refine AllReadyH.cons (i:=13) rfl (fun K2 hK2 => ?_) AllReadyH.nil
 go_simp
 go_at_call 30
 refine (HLF.out w2.drew).mono ?_
 rintro ev w701 ⟨rfl,bw701⟩
 try go_wp2_with fail
 obtain ⟨Kw701,fw701⟩:=st_call ((But.refl (fun k => k = w.heap.size+1) w2).drew) bw701
 have Kw701:=hid Kw701
 have Tw701_0:=hid (fw701 _ _ (show w2.drew.heap[(w.heap.size+1)]? = _ from RV2.out))
 clear bw701 fw701
 refine hK2.out _ _ Kw701.out (fun hHeld2 => ?_)
 clear hK2 K2
 try simp only [pu]
 refine wpAnyH_ready (rs:=[14]) (by kernel_rfl) (by simp) ?_
 refine AllReadyH.cons (i:=14) rfl (fun K2 hK2 => ?_) AllReadyH.nil
 rw [if_pos (by rfl)]
 refine wp_store_row 39 _ _ rfl (w.heap.size+1) vr rfl rfl 39 _ Tw701_0.out Ivr.out (by rw [Zvr.out];rfl) Ovr.out ?_
 obtain ⟨w702,hw702⟩:∃ x,w701.setRow (w.heap.size+1) vr = x:=⟨_,rfl⟩
 obtain ⟨Kw702,Tw702_0,fw702⟩:=st_row Kw701.out hw702 (fun _ => rfl) Tw701_0.out
 have Kw702:=hid Kw702
 have Tw702_0:=hid Tw702_0
 clear fw702
 rw [hw702]
 clear hw702
 refine hK2.out _ _ Kw702.out (fun hHeld2 => ?_)
 clear hK2 K2
 try simp only [pu]
 refine wpAnyH_done (by kernel_rfl) ?_ _
 go_wp2
 refine bodyPost_ret (v:=.agg vr) (results_cell_row rfl _ _ (w.heap.size+1) 39 vr (0,0) _ rfl Tw702_0.out Tryz.underlying39 rfl Ivr.out) rfl ⟨rfl,HB2.out.trans (But.to_below Kw702.out HB2.out.size (fun k hk q => by omega))⟩
theorem says20_node (base b2 G:Nat) (v:Value) (L:List ByteArray) (l:List (Int × Int)) (As:Option Addr) (cs:Nat) (P:List (List UInt8)) (A:Option Addr) (m c begin:Nat) (S:Option Addr) (n cap:Nat) (D:List ByteArray) (old:Nat) (b0:List UInt8) (sd:Int × Int → Option (List UInt8)) (b e:Int) (w:World) (h:Giv base b2 G v L l As cs P A m c begin S n cap D old b0 sd w) (hbe:PB (b,e)) (hs:sd (b,e) = none) (h2:2 ≤ e - b) (h3:e ≤ 1048576) (m':Int) (hm:b+blwI (e - b) = m') (p q:List UInt8) (lp:p.length = 32) (lq:q.length = 32)
 (hA:∀ w',Below w.heap.size w w' → Calls Tryz.prog 70 #[.pointer (some ⟨G,0,none⟩),.agg #[.int .u64 b,.int .u64 m']] w' fun ev w2 => ev = .returned (hv p) ∧ Below w'.heap.size w' w2)
 (hC:∀ w',Below w.heap.size w w' → Calls Tryz.prog 70 #[.pointer (some ⟨G,0,none⟩),.agg #[.int .u64 m',.int .u64 e]] w' fun ev w2 => ev = .returned (hv q) ∧ Below w'.heap.size w' w2) :
 Calls Tryz.prog 70 #[.pointer (some ⟨G,0,none⟩),.agg #[.int .u64 b,.int .u64 e]] w fun ev w' => ev = .returned (hv (nodeH p q)) ∧ Below w.heap.size w w':=by
 obtain ⟨wv,hwv⟩:∃ y,((w.alloc (.cells #[.int .u64 b,.int .u64 e] 84)).alloc (.cells (List.replicate 32 (Value.int .u8 0)).toArray 39)) = y:=⟨_,rfl⟩
 have HB:Hid (Below w.heap.size w wv):=hid (by rw [← hwv];exact (((Below.refl _ _).alloc (by simp;try omega) _).alloc (by simp;try omega) _))
 have HSV:Hid (wv.heap.size = w.heap.size+1+1):=hid (by rw [← hwv];simp)
 have RX:Hid (wv.heap[w.heap.size]? = some (.cells #[.int .u64 b,.int .u64 e] 84 (0,0))):=hid (by rw [← hwv];simp only [World.alloc,Array.getElem?_push,Array.size_push];(repeat' split) <;> first | rfl | (exfalso;omega) | simp_all)
 have RV:Hid (wv.heap[(w.heap.size+1)]? = some (.cells (List.replicate 32 (Value.int .u8 0)).toArray 39 (0,0))):=hid (by rw [← hwv];simp only [World.alloc,Array.getElem?_push,Array.size_push];(repeat' split) <;> first | rfl | (exfalso;omega) | simp_all)
 have HWV:=hid hwv
 simp only [List.replicate,List.toArray] at HWV
 obtain ⟨vx,evx,HVX,Zvx,Ivx,Ovx⟩:=span_row b e
 have HG:=hid h
 have HLEN:((sd (b,e)).getD zeroH).length = 32:=by
  cases q:sd (b,e) with
  | none => exact zeroH_length
  | some x => exact h.len _ _ q
 obtain ⟨vq,evq,Hvq,Zvq,Ivq,Ovq⟩:=row_of _ HLEN
 have HHAS:Hid (Calls Tryz.prog 69 #[.pointer (some ⟨G,0,none⟩),.agg vx] wv fun ev w' => ev = .returned (.tuple #[.agg vq,.bool (sd (b,e)).isSome]) ∧ Below wv.heap.size wv w'):=hid (by
  have:=has20_any base b2 G v L l As cs P A m c begin S n cap D old b0 sd b e wv (h.below HB.out) hbe
  rw [evx,evq] at this;exact this)
 have RXx:Hid (wv.heap[w.heap.size]? = some (.cells vx 84 (0,0))):=hid (by rw [HVX.out];exact RX.out)
 have EVQ:=hid evq
 have hsm:(sd (b,e)).isSome = false:=by rw [hs];rfl
 obtain ⟨va,eva,HVA,Zva,Iva,Ova⟩:=span_row b m'
 obtain ⟨vb,evb,HVB,Zvb,Ivb,Ovb⟩:=span_row m' e
 obtain ⟨vp,evp,Hvp,Zvp,Ivp,Ovp⟩:=row_of p lp
 obtain ⟨vy,evy,Hvy,Zvy,Ivy,Ovy⟩:=row_of q lq
 obtain ⟨vr,evr,Hvr,Zvr,Ivr,Ovr⟩:=row_of (nodeH p q) (nodeH_length _ _)
 have HHALF:Hid (∀ w',Calls Tryz.prog 64 #[.agg vx] w' fun ev w2 => ev = .returned (.tuple #[.agg va,.agg vb]) ∧ Below w'.heap.size w' w2):=hid (fun w' => by
  have:=halves20_any b e w' hbe.1 h2 (by omega)
  rw [hm,evx,eva,evb] at this;exact this)
 rw [eva,evp] at hA
 rw [evb,evy] at hC
 have HA:=hid hA
 have HC:=hid hC
 have HND:Hid (∀ w',Calls Tryz.prog 85 #[.agg vp,.agg vy] w' fun ev w2 => ev = .returned (.agg vr) ∧ Below w'.heap.size w' w2):=hid (fun w' => by
  have:=refnode_any p q w' lp lq
  rw [evp,evy,evr] at this;exact this)
 rw [evr]
 have q1:(e - b == 1) = false:=by simp;omega
 have hb0:0 ≤ b:=hbe.1
 have he1:e < 18446744073709551616:=hbe.2.2.2
 clear hwv h evx evq eva evb evp evy evr hbe HLEN hs hA hC lp lq hm
 go_enter Tryz.func70,Tryz.ntmps70
 go_upto_region 1 with fail
 rw [HWV.out]
 go_wp2_with (refine wpList_load_row rfl 84 _ rfl w.heap.size rfl 84 vx (0,0) _ RXx.out Tryz.underlying84 rfl Ivx.out ?_)
 refine HHAS.out.mono ?_
 rw [hsm]
 rintro ev w1 ⟨rfl,b1⟩
 have B1:=hid b1
 have HS1:Hid (wv.heap.size ≤ w1.heap.size):=hid b1.size
 clear b1
 go_upto_region 2 with (refine wpList_store_row_any rfl 39 _ _ rfl w1.heap.size vq rfl rfl 39 _ (heap_at _ _ _ rfl) Ivq.out (by rw [Zvq.out];rfl) Ovq.out ?_;intro w2 hbN hgN hsN;have B12:Hid (Below w1.heap.size w1 w2):=hid (((Below.refl _ w1).alloc (Nat.le_refl _) _).trans (hbN.to_below (by simp) (fun k hk q => by omega)));have RQ:=hid hgN;clear hbN hgN hsN)
 have BV2:Hid (Below wv.heap.size wv w2):=hid (B1.out.trans (B12.out.mono HS1.out))
 have HB2:Hid (Below w.heap.size w w2):=hid (HB.out.trans (BV2.out.mono HB.out.size))
 have HV2:Hid (wv.heap.size ≤ w2.heap.size):=hid BV2.out.size
 have RX2:Hid (w2.heap[w.heap.size]? = some (.cells vx 84 (0,0))):=hid ((BV2.out.block _ (by have:=HSV.out;omega)).trans RXx.out)
 have HG2:=hid (HG.out.below HB2.out)
 have RV2:Hid (w2.heap[(w.heap.size+1)]? = some (.cells (List.replicate 32 (Value.int .u8 0)).toArray 39 (0,0))):=hid ((BV2.out.block _ (by have:=HSV.out;omega)).trans RV.out)
 have x0:w2.cell? ⟨w.heap.size,0,none⟩ = some (.int .u64 b):=by rw [cell_of_row w2 w.heap.size 0 _ 84 (0,0) RX2.out,HVX.out];rfl
 have x1:w2.cell? ⟨w.heap.size,1,none⟩ = some (.int .u64 e):=by rw [cell_of_row w2 w.heap.size 1 _ 84 (0,0) RX2.out,HVX.out];rfl
 go_wp2_with (refine wpList_load_row rfl 84 _ rfl w.heap.size rfl 84 vx (0,0) _ RX2.out Tryz.underlying84 rfl Ivx.out ?_)
 refine (HHALF.out w2).mono ?_
 rintro ev w5 ⟨rfl,b5⟩
 have B5:=hid b5
 have HS5:Hid (w2.heap.size ≤ w5.heap.size):=hid b5.size
 clear b5
 go_upto_region 7 with (first
  | (refine wpList_store_row_any rfl 84 _ _ rfl w5.heap.size va rfl rfl 84 _ ((((Below.refl _ (w5.alloc _)).alloc (Nat.le_refl _) _).block _ (by simp)).trans (heap_at _ _ _ rfl)) Iva.out (by rw [Zva.out];rfl) Ova.out ?_;intro w6 hbA hgA hsA;have BA:=hid hbA;have GA:=hid hgA;have SA:Hid (w6.heap.size = w5.heap.size+1+1):=hid (hsA.trans (by simp));clear hbA hgA hsA)
  | (refine wpList_store_row_any rfl 84 _ _ rfl (w5.heap.size+1) vb rfl rfl 84 _ ((BA.out.same _ (by simp) (by omega)).trans (heap_at _ _ _ (by simp))) Ivb.out (by rw [Zvb.out];rfl) Ovb.out ?_;intro wy hbB hgB hsB;have BC:=hid hbB;have RBy:=hid hgB;have SB:Hid (wy.heap.size = w5.heap.size+1+1):=hid (hsB.trans SA.out);clear hbB hgB hsB))
 have B5Y:Hid (Below w5.heap.size w5 wy):=hid ((((Below.refl _ _).alloc (Nat.le_refl _) _).alloc (by simp) _).trans (((BA.out.mono (T:=fun k => k = w5.heap.size ∨ k = w5.heap.size+1) (fun _ _ q => .inl q)).step BC.out (fun _ _ q => .inr q)).to_below (by simp;omega) (fun k hk q => by omega)))
 have RAy:Hid (wy.heap[w5.heap.size]? = some (.cells va 84 (0,0))):=hid ((BC.out.same _ (by have:=SA.out;omega) (by omega)).trans GA.out)
 have B2Y:Hid (Below w2.heap.size w2 wy):=hid (B5.out.trans (B5Y.out.mono HS5.out))
 have HBY:Hid (Below w.heap.size w wy):=hid (HB2.out.trans (B2Y.out.mono HB2.out.size))
 have LY:Hid (w.heap.size+1 < w5.heap.size ∧ w5.heap.size+1 < wy.heap.size):=hid ⟨by have:=HS5.out;have:=HV2.out;have:=HSV.out;omega,by have:=SB.out;omega⟩
 have RVy:Hid (wy.heap[(w.heap.size+1)]? = some (.cells (List.replicate 32 (Value.int .u8 0)).toArray 39 (0,0))):=hid ((B2Y.out.block _ (by have:=HV2.out;have:=HSV.out;omega)).trans RV2.out)
 clear x0 x1
 refine wp_region_held_drew (S:=But (fun k => k = w.heap.size+1) wy) (by kernel_rfl) (But.refl _ _).drew (fun hHeld => ?_)
 refine tk (i:=0) (v:=?v14) rfl ?y14 ?r14
 case y14 => (intro w hSw;(try dsimp only at hSw);go_simp;(try with_reducible rfl))
 try simp only [pu]
 refine tw (i:=1) rfl (yieldsIf_load_row (by rfl) 84 _ (by rfl) w5.heap.size (by rfl) 84 va (0,0) _ (fun w h => (But.same h _ (by have:=LY.out;omega) (by have:=LY.out;omega)).trans RAy.out) Tryz.underlying84 rfl Iva.out) ?_
 try simp only [pu]
 refine tk (i:=3) (v:=?v16) rfl ?y16 ?r16
 case y16 => (intro w hSw;(try dsimp only at hSw);go_simp;(try with_reducible rfl))
 try simp only [pu]
 refine tw (i:=4) rfl (yieldsIf_load_row (by rfl) 84 _ (by rfl) (w5.heap.size+1) (by rfl) 84 vb (0,0) _ (fun w h => (But.same h _ (by have:=LY.out;omega) (by have:=LY.out;omega)).trans RBy.out) Tryz.underlying84 rfl Ivb.out) ?_
 try simp only [pu]
 refine wpAnyH_ready (rs:=[2]) (by kernel_rfl) (by simp) ?_
 refine AllReadyH.cons (i:=2) rfl (fun K2 hK2 => ?_) AllReadyH.nil
 go_simp
 go_at_call 70
 refine (HA.out wy.drew (HBY.out.trans (But.to_below ((But.refl (fun k => k = w.heap.size+1) wy).drew) HBY.out.size (fun k hk q => by omega)))).mono ?_
 rintro ev w703 ⟨rfl,bw703⟩
 try go_wp2_with fail
 obtain ⟨Kw703,fw703⟩:=st_call ((But.refl (fun k => k = w.heap.size+1) wy).drew) bw703
 have Kw703:=hid Kw703
 have Tw703_0:=hid (fw703 _ _ (show wy.drew.heap[(w.heap.size+1)]? = _ from RVy.out))
 clear bw703 fw703
 refine hK2.out _ _ Kw703.out (fun hHeld2 => ?_)
 clear hK2 K2
 try simp only [pu]
 refine wpAnyH_ready (rs:=[5]) (by kernel_rfl) (by simp) ?_
 refine AllReadyH.cons (i:=5) rfl (fun K2 hK2 => ?_) AllReadyH.nil
 go_simp
 go_at_call 70
 refine (HC.out w703 (HBY.out.trans (But.to_below Kw703.out HBY.out.size (fun k hk q => by omega)))).mono ?_
 rintro ev w704 ⟨rfl,bw704⟩
 try go_wp2_with fail
 obtain ⟨Kw704,fw704⟩:=st_call Kw703.out bw704
 have Kw704:=hid Kw704
 have Tw704_0:=hid (fw704 _ _ Tw703_0.out)
 clear bw704 fw704
 refine hK2.out _ _ Kw704.out (fun hHeld2 => ?_)
 clear hK2 K2
 try simp only [pu]
 refine wpAnyH_ready (rs:=[6]) (by kernel_rfl) (by simp) ?_
 refine AllReadyH.cons (i:=6) rfl (fun K2 hK2 => ?_) AllReadyH.nil
 go_simp
 go_at_call 85
 refine (HND.out w704).mono ?_
 rintro ev w705 ⟨rfl,bw705⟩
 try go_wp2_with fail
 obtain ⟨Kw705,fw705⟩:=st_call Kw704.out bw705
 have Kw705:=hid Kw705
 have Tw705_0:=hid (fw705 _ _ Tw704_0.out)
 clear bw705 fw705
 refine hK2.out _ _ Kw705.out (fun hHeld2 => ?_)
 clear hK2 K2
 try simp only [pu]
 refine wpAnyH_ready (rs:=[7]) (by kernel_rfl) (by simp) ?_
 refine AllReadyH.cons (i:=7) rfl (fun K2 hK2 => ?_) AllReadyH.nil
 rw [if_pos (by rfl)]
 refine wp_store_row 39 _ _ rfl (w.heap.size+1) vr rfl rfl 39 _ Tw705_0.out Ivr.out (by rw [Zvr.out];rfl) Ovr.out ?_
 obtain ⟨w706,hw706⟩:∃ x,w705.setRow (w.heap.size+1) vr = x:=⟨_,rfl⟩
 obtain ⟨Kw706,Tw706_0,fw706⟩:=st_row Kw705.out hw706 (fun _ => rfl) Tw705_0.out
 have Kw706:=hid Kw706
 have Tw706_0:=hid Tw706_0
 clear fw706
 rw [hw706]
 clear hw706
 refine hK2.out _ _ Kw706.out (fun hHeld2 => ?_)
 clear hK2 K2
 try simp only [pu]
 refine wpAnyH_done (by kernel_rfl) ?_ _
 go_wp2
 refine bodyPost_ret (v:=.agg vr) (results_cell_row rfl _ _ (w.heap.size+1) 39 vr (0,0) _ rfl Tw706_0.out Tryz.underlying39 rfl Ivr.out) rfl ⟨rfl,HBY.out.trans (But.to_below Kw706.out HBY.out.size (fun k hk q => by omega))⟩
theorem says20_any (base b2 G:Nat) (v:Value) (L:List ByteArray) (l:List (Int × Int)) (As:Option Addr) (cs:Nat) (P:List (List UInt8)) (A:Option Addr) (m c begin:Nat) (S:Option Addr) (n cap:Nat) (D:List ByteArray) (old:Nat) (b0:List UInt8) (sd:Int × Int → Option (List UInt8)):∀ (f:Nat) (b e:Int) (w:World),Giv base b2 G v L l As cs P A m c begin S n cap D old b0 sd w → 0 ≤ b → b < e → e ≤ 1048576 → e - b ≤ pow2 f → (∀ i,fBare sd f b e i → (begin:Int) ≤ i ∧ i < begin+n) →
 Calls Tryz.prog 70 #[.pointer (some ⟨G,0,none⟩),.agg #[.int .u64 b,.int .u64 e]] w fun ev w' => ev = .returned (hv (fSays sd (claimLeaf D begin) f b e)) ∧ Below w.heap.size w w':=by
 intro f
 induction f with
 | zero =>
  intro b e w h h0 h1 h3 hp hc
  rw [pow2_zero] at hp
  have hbe:PB (b,e):=⟨by omega,by omega,by omega,by omega⟩
  rw [fSays]
  cases q:sd (b,e) with
  | some x => exact says20_said base b2 G v L l As cs P A m c begin S n cap D old b0 sd b e w h hbe x q
  | none => exact says20_leaf base b2 G v L l As cs P A m c begin S n cap D old b0 sd b e w h hbe q h1 (by omega) (hc b ⟨q,rfl⟩)
 | succ f ih =>
  intro b e w h h0 h1 h3 hp hc
  have hbe:PB (b,e):=⟨by omega,by omega,by omega,by omega⟩
  rw [fSays]
  cases q:sd (b,e) with
  | some x => exact says20_said base b2 G v L l As cs P A m c begin S n cap D old b0 sd b e w h hbe x q
  | none =>
   by_cases h2:e - b < 2
   ·simp only [if_pos h2]
    exact says20_leaf base b2 G v L l As cs P A m c begin S n cap D old b0 sd b e w h hbe q h1 h2 (hc b ⟨q,by rw [if_pos h2]⟩)
   ·simp only [if_neg h2]
    have hbl:=blwI_bd (n:=e - b) (by omega)
    have hk:=blwI_le_pow (n:=e - b) (f:=f) (by omega) hp
    have hps:=pow2_succ f
    have hl:=fun i hi => hc i ⟨q,by rw [if_neg h2];exact .inl hi⟩
    have hr:=fun i hi => hc i ⟨q,by rw [if_neg h2];exact .inr hi⟩
    have l32:=fSays_len sd (claimLeaf D begin) h.len (fun i => leafH_length _)
    exact says20_node base b2 G v L l As cs P A m c begin S n cap D old b0 sd b e w h hbe q (by omega) h3 _ rfl _ _ (l32 _ _ _) (l32 _ _ _)
     (fun w' hw => ih b (b+blwI (e - b)) w' (h.below hw) h0 (by omega) (by omega) (by omega) hl)
     (fun w' hw => ih (b+blwI (e - b)) e w' (h.below hw) (by omega) (by omega) h3 (by omega) hr)
/- cartularyref20.given.parts: where the log and the claim part. No condition. -/
def strOf (l:List UInt8):ByteArray:=⟨l.toArray⟩
theorem bOf_strOf (l:List UInt8):bOf (strOf l) = l:=by simp [bOf,strOf]
theorem strOf_bOf (s:ByteArray):strOf (bOf s) = s:=bOf_inj (bOf_strOf _)
theorem str_ne20 {s t:ByteArray} (h:s ≠ t):¬ s.toList = t.toList:=fun e => by rw [Go.ByteArray.toList_eq,Go.ByteArray.toList_eq] at e;exact h (ByteArray.ext (Array.toList_inj.1 e))
def PV (r:Option (List UInt8 × List UInt8)):Value:=match r with | none => .tuple #[.string ⟨#[]⟩,.string ⟨#[]⟩,.bool false] | some r => .tuple #[.string (strOf r.1),.string (strOf r.2),.bool true]
theorem lt_text (s:ByteArray) (w:World) (hs:s.size ≤ 99999999999):Calls Tryz.prog 63 #[.string s] w fun ev w' => ev = .returned (.string (strOf (0 :: bOf s))) ∧ Below w.heap.size w w' :=
 (leaftext_any s w hs).mono (fun _ w' ⟨⟨t,q1,q2,_⟩,q3⟩ => ⟨by rw [q1,← q2,strOf_bOf],by rw [← q3];exact Below.refl _ _⟩)
theorem nt_text (a b:List UInt8) (w:World) (ha:a.length = 32) (hb:b.length = 32):Calls Tryz.prog 65 #[hv a,hv b] w fun ev w' => ev = .returned (.string (strOf (1 :: (a ++ b)))) ∧ Below w.heap.size w w' :=
 (nodetext_any a b w ha hb).mono (fun _ w' ⟨⟨t,q1,q2⟩,q3⟩ => ⟨by rw [q1,← q2,strOf_bOf],q3⟩)
theorem parts20_said (base b2 G:Nat) (v:Value) (L:List ByteArray) (l:List (Int × Int)) (As:Option Addr) (cs:Nat) (P:List (List UInt8)) (A:Option Addr) (m c begin:Nat) (S:Option Addr) (n cap:Nat) (D:List ByteArray) (old:Nat) (b0:List UInt8) (sd:Int × Int → Option (List UInt8)) (b e:Int) (w:World) (h:Giv base b2 G v L l As cs P A m c begin S n cap D old b0 sd w) (hbe:PB (b,e)) (x:List UInt8) (hs:sd (b,e) = some x) :
 Calls Tryz.prog 33 #[.pointer (some ⟨G,0,none⟩),.agg #[.int .u64 b,.int .u64 e]] w fun ev w' => ev = .returned (PV none) ∧ Below w.heap.size w w':=by
 obtain ⟨wv,hwv⟩:∃ y,(w.alloc (.cells #[.int .u64 b,.int .u64 e] 84)) = y:=⟨_,rfl⟩
 have HB:Hid (Below w.heap.size w wv):=hid (by rw [← hwv];exact ((Below.refl _ _).alloc (by simp;try omega) _))
 have HSV:Hid (wv.heap.size = w.heap.size+1):=hid (by rw [← hwv];simp)
 have RX:Hid (wv.heap[w.heap.size]? = some (.cells #[.int .u64 b,.int .u64 e] 84 (0,0))):=hid (by rw [← hwv];exact heap_at _ _ _ rfl)
 have HWV:=hid hwv
 obtain ⟨vx,evx,HVX,Zvx,Ivx,Ovx⟩:=span_row b e
 have HG:=hid h
 have HLEN:((sd (b,e)).getD zeroH).length = 32:=by
  cases q:sd (b,e) with
  | none => exact zeroH_length
  | some x => exact h.len _ _ q
 obtain ⟨vq,evq,Hvq,Zvq,Ivq,Ovq⟩:=row_of _ HLEN
 have HHAS:Hid (Calls Tryz.prog 69 #[.pointer (some ⟨G,0,none⟩),.agg vx] wv fun ev w' => ev = .returned (.tuple #[.agg vq,.bool (sd (b,e)).isSome]) ∧ Below wv.heap.size wv w'):=hid (by
  have:=has20_any base b2 G v L l As cs P A m c begin S n cap D old b0 sd b e wv (h.below HB.out) hbe
  rw [evx,evq] at this;exact this)
 have RXx:Hid (wv.heap[w.heap.size]? = some (.cells vx 84 (0,0))):=hid (by rw [HVX.out];exact RX.out)
 have EVQ:=hid evq
 have hsm:(sd (b,e)).isSome = true:=by rw [hs];rfl
 clear hwv h evx evq hbe HLEN hs
 go_enter Tryz.func33,Tryz.ntmps33
 go_upto_region 1 with fail
 rw [HWV.out]
 go_wp2_with (refine wpList_load_row rfl 84 _ rfl w.heap.size rfl 84 vx (0,0) _ RXx.out Tryz.underlying84 rfl Ivx.out ?_)
 refine HHAS.out.mono ?_
 rw [hsm]
 rintro ev w1 ⟨rfl,b1⟩
 have B1:=hid b1
 have HS1:Hid (wv.heap.size ≤ w1.heap.size):=hid b1.size
 clear b1
 go_upto_region 2 with (refine wpList_store_row_any rfl 39 _ _ rfl w1.heap.size vq rfl rfl 39 _ (heap_at _ _ _ rfl) Ivq.out (by rw [Zvq.out];rfl) Ovq.out ?_;intro w2 hbN hgN hsN;have B12:Hid (Below w1.heap.size w1 w2):=hid (((Below.refl _ w1).alloc (Nat.le_refl _) _).trans (hbN.to_below (by simp) (fun k hk q => by omega)));have RQ:=hid hgN;clear hbN hgN hsN)
 have BV2:Hid (Below wv.heap.size wv w2):=hid (B1.out.trans (B12.out.mono HS1.out))
 have HB2:Hid (Below w.heap.size w w2):=hid (HB.out.trans (BV2.out.mono HB.out.size))
 have HV2:Hid (wv.heap.size ≤ w2.heap.size):=hid BV2.out.size
 have RX2:Hid (w2.heap[w.heap.size]? = some (.cells vx 84 (0,0))):=hid ((BV2.out.block _ (by have:=HSV.out;omega)).trans RXx.out)
 have HG2:=hid (HG.out.below HB2.out)
 go_wp2_with fail
 go_ret3
 exact ⟨rfl,HB2.out⟩
theorem parts20_leaf (base b2 G:Nat) (v:Value) (L:List ByteArray) (l:List (Int × Int)) (As:Option Addr) (cs:Nat) (P:List (List UInt8)) (A:Option Addr) (m c begin:Nat) (S:Option Addr) (n cap:Nat) (D:List ByteArray) (old:Nat) (b0:List UInt8) (sd:Int × Int → Option (List UInt8)) (b e:Int) (w:World) (h:Giv base b2 G v L l As cs P A m c begin S n cap D old b0 sd w) (hbe:PB (b,e)) (hs:sd (b,e) = none) (h1:b < e) (h2:e - b < 2) (hin:(begin:Int) ≤ b ∧ b < begin+n) (he:e ≤ L.length) :
 Calls Tryz.prog 33 #[.pointer (some ⟨G,0,none⟩),.agg #[.int .u64 b,.int .u64 e]] w fun ev w' => ev = .returned (PV (if logText L b = claimText D begin b then none else some (0 :: logText L b,0 :: claimText D begin b))) ∧ Below w.heap.size w w':=by
 obtain ⟨wv,hwv⟩:∃ y,(w.alloc (.cells #[.int .u64 b,.int .u64 e] 84)) = y:=⟨_,rfl⟩
 have HB:Hid (Below w.heap.size w wv):=hid (by rw [← hwv];exact ((Below.refl _ _).alloc (by simp;try omega) _))
 have HSV:Hid (wv.heap.size = w.heap.size+1):=hid (by rw [← hwv];simp)
 have RX:Hid (wv.heap[w.heap.size]? = some (.cells #[.int .u64 b,.int .u64 e] 84 (0,0))):=hid (by rw [← hwv];exact heap_at _ _ _ rfl)
 have HWV:=hid hwv
 obtain ⟨vx,evx,HVX,Zvx,Ivx,Ovx⟩:=span_row b e
 have HG:=hid h
 have HLEN:((sd (b,e)).getD zeroH).length = 32:=by
  cases q:sd (b,e) with
  | none => exact zeroH_length
  | some x => exact h.len _ _ q
 obtain ⟨vq,evq,Hvq,Zvq,Ivq,Ovq⟩:=row_of _ HLEN
 have HHAS:Hid (Calls Tryz.prog 69 #[.pointer (some ⟨G,0,none⟩),.agg vx] wv fun ev w' => ev = .returned (.tuple #[.agg vq,.bool (sd (b,e)).isSome]) ∧ Below wv.heap.size wv w'):=hid (by
  have:=has20_any base b2 G v L l As cs P A m c begin S n cap D old b0 sd b e wv (h.below HB.out) hbe
  rw [evx,evq] at this;exact this)
 have RXx:Hid (wv.heap[w.heap.size]? = some (.cells vx 84 (0,0))):=hid (by rw [HVX.out];exact RX.out)
 have EVQ:=hid evq
 have hsm:(sd (b,e)).isSome = false:=by rw [hs];rfl
 obtain ⟨t,ht⟩:∃ t:Nat,b - (begin:Int) = t:=⟨(b - begin).toNat,by omega⟩
 obtain ⟨d,hd⟩:∃ d,D[t]? = some d:=⟨_,List.getElem?_eq_getElem (by have:=h.da.1;omega)⟩
 obtain ⟨gs,os,rfl,hcs,hgs,_⟩:=h.da.at hd
 have hds:=h.small d (List.mem_of_getElem? hd)
 have hcl:D.getD (b - (begin:Int)).toNat ByteArray.empty = d:=by rw [ht,Int.toNat_natCast,List.getD_eq_getElem?_getD,hd];rfl
 have tn:t < n:=by omega
 have t1:IntKind.u64.wrap (t:Int) = t:=IntWalk.u64_in _ (by have:=h.da.2.2.2.2.1;omega)
 have t2:(t:Int) < n:=by omega
 have t3:(0:Int) ≤ t:=by omega
 have hnl:n ≤ 140737488355328:=h.da.2.2.2.2.1
 have hval:claimText D begin b = bOf d:=by unfold claimText;rw [hcl]
 have hb0:0 ≤ b:=hbe.1
 have hLL:=h.rl.1.1
 obtain ⟨u,hu⟩:∃ u:Nat,b = u:=⟨b.toNat,by omega⟩
 obtain ⟨y,hy⟩:∃ y,L[u]? = some y:=⟨_,List.getElem?_eq_getElem (by omega)⟩
 have hys:=h.rl.1.2 y (List.mem_of_getElem? hy)
 have hval2:logText L b = bOf y:=by unfold logText;rw [hu,Int.toNat_natCast,List.getD_eq_getElem?_getD,hy];rfl
 obtain ⟨AL,capL,rfl,_⟩:=own_shape h.rl.2.2.2.1
 obtain ⟨_,hsin,hsh⟩:=rlog_sin h.rl
 obtain ⟨gL,rfl⟩:∃ g,AL = some ⟨g,0,none⟩:=by
  obtain ⟨g,o,q,_⟩:=hsin.at hy
  rcases hsh with ⟨r,_⟩ | ⟨g',r⟩
  ·rw [r] at q;cases q
  ·exact ⟨g',r⟩
 obtain ⟨gL',oL,qL,hcL,hgL,_⟩:=hsin.at hy
 cases qL
 rw [Nat.zero_add] at hcL
 rw [hval,hval2]
 obtain ⟨res,hres⟩:∃ r,(if bOf y = bOf d then none else some (0 :: bOf y,0 :: bOf d)) = r:=⟨_,rfl⟩
 rw [hres]
 have HRES:=hid hres
 have HU:=hid hu
 have HTX:=hid (fun w' => lt_text y w' (by omega))
 have HTY:=hid (fun w' => lt_text d w' hds)
 have q1:(e - b == 1) = true:=by simp;omega
 have he1:e < 18446744073709551616:=hbe.2.2.2
 have HCS:=hid (And.intro hcs hgs)
 have HCL:=hid (And.intro hcL hgL)
 have HRL:=hid h.rl
 obtain ⟨N,hN⟩:∃ N:Nat,L.length = N:=⟨_,rfl⟩
 have HLN:=hid hN
 have u1:(b:Int) < N:=by omega
 have u2:(N:Int) ≤ 1048576:=by omega
 clear hwv h evx evq hbe HLEN hs hd hcl hds hval hcs hy hval2 hsin hsh hcL hN hres hu
 go_enter Tryz.func33,Tryz.ntmps33
 go_upto_region 1 with fail
 rw [HWV.out]
 go_wp2_with (refine wpList_load_row rfl 84 _ rfl w.heap.size rfl 84 vx (0,0) _ RXx.out Tryz.underlying84 rfl Ivx.out ?_)
 refine HHAS.out.mono ?_
 rw [hsm]
 rintro ev w1 ⟨rfl,b1⟩
 have B1:=hid b1
 have HS1:Hid (wv.heap.size ≤ w1.heap.size):=hid b1.size
 clear b1
 go_upto_region 2 with (refine wpList_store_row_any rfl 39 _ _ rfl w1.heap.size vq rfl rfl 39 _ (heap_at _ _ _ rfl) Ivq.out (by rw [Zvq.out];rfl) Ovq.out ?_;intro w2 hbN hgN hsN;have B12:Hid (Below w1.heap.size w1 w2):=hid (((Below.refl _ w1).alloc (Nat.le_refl _) _).trans (hbN.to_below (by simp) (fun k hk q => by omega)));have RQ:=hid hgN;clear hbN hgN hsN)
 have BV2:Hid (Below wv.heap.size wv w2):=hid (B1.out.trans (B12.out.mono HS1.out))
 have HB2:Hid (Below w.heap.size w w2):=hid (HB.out.trans (BV2.out.mono HB.out.size))
 have HV2:Hid (wv.heap.size ≤ w2.heap.size):=hid BV2.out.size
 have RX2:Hid (w2.heap[w.heap.size]? = some (.cells vx 84 (0,0))):=hid ((BV2.out.block _ (by have:=HSV.out;omega)).trans RXx.out)
 have HG2:=hid (HG.out.below HB2.out)
 have x0:w2.cell? ⟨w.heap.size,0,none⟩ = some (.int .u64 b):=by rw [cell_of_row w2 w.heap.size 0 _ 84 (0,0) RX2.out,HVX.out];rfl
 have x1:w2.cell? ⟨w.heap.size,1,none⟩ = some (.int .u64 e):=by rw [cell_of_row w2 w.heap.size 1 _ 84 (0,0) RX2.out,HVX.out];rfl
 have KC:Hid (∀ w',But (fun _ => False) w2 w' → (w'.cell? ⟨G,0,none⟩ = some (.pointer (some ⟨b2,0,none⟩)) ∧ w'.cell? ⟨G,1,none⟩ = some (.slice As m cs) ∧ w'.cell? ⟨G,2,none⟩ = some (.slice A m c) ∧ w'.cell? ⟨G,3,none⟩ = some (.int .u64 begin) ∧ w'.cell? ⟨G,4,none⟩ = some (.slice (some ⟨gs,os,none⟩) n cap) ∧ w'.cell? ⟨G,5,none⟩ = some (.int .u64 old)) ∧ w'.cell? ⟨w.heap.size,0,none⟩ = some (.int .u64 b) ∧ w'.cell? ⟨w.heap.size,1,none⟩ = some (.int .u64 e)):=hid (fun w' hb => by
  have hbl:Below w.heap.size w w':=HB2.out.trans (hb.to_below HB2.out.size (fun k hk q => by omega))
  have q:=HG.out.below hbl
  have hr:=(hb.same w.heap.size (by have:=HSV.out;have:=HV2.out;omega) (by first | omega | exact fun q => q)).trans RX2.out
  exact ⟨⟨q.c0,q.c1,q.c2,q.c3,q.c4,q.c5⟩,by rw [cell_of_row w' w.heap.size 0 _ 84 (0,0) hr,HVX.out];rfl,by rw [cell_of_row w' w.heap.size 1 _ 84 (0,0) hr,HVX.out];rfl⟩)
 have KS:Hid (∀ w',But (fun _ => False) w2 w' → w'.cell? ⟨gs,os+t,none⟩ = some (.string d)):=hid (fun w' hb => cell_below (HB2.out.trans (hb.to_below HB2.out.size (fun _ _ q => q))) HCS.out.1 HCS.out.2)
 have KL:Hid (∀ w',But (fun _ => False) w2 w' → w'.cell? ⟨b2,0,none⟩ = some (.slice (some ⟨gL,0,none⟩) N capL) ∧ w'.cell? ⟨gL,u,none⟩ = some (.string y)):=hid (fun w' hb => by
  have hbl:=HB2.out.trans (hb.to_below HB2.out.size (fun _ _ q => q))
  refine ⟨?_,cell_below hbl HCL.out.1 HCL.out.2⟩
  have:=(HRL.out.below hbl).c0
  rw [HLN.out] at this;exact this)
 go_wp2_with fail
 clear x0 x1
 have hbu:b = (u:Int):=HU.out
 subst hbu
 refine wp_region_held_drew (S:=But (fun _ => False) w2) (by kernel_rfl) (But.refl _ _).drew (fun hHeld => ?_)
 refine tk (i:=0) (v:=?v1) rfl ?y1 ?r1
 case y1 => (intro w hSw;(try dsimp only at hSw);go_simp;(try with_reducible rfl))
 try simp only [pu]
 refine tk (i:=1) (v:=?v2) rfl ?y2 ?r2
 case y2 => (intro w hSw;(try dsimp only at hSw);go_simp;(try with_reducible rfl))
 try simp only [pu]
 refine tk (i:=2) (v:=?v3) rfl ?y3 ?r3
 case y3 => (intro w hSw;(try dsimp only at hSw);go_simp;(try with_reducible rfl))
 try simp only [pu]
 refine tk (i:=3) (v:=?v4) rfl ?y4 ?r4
 case y4 => (intro w hSw;(try dsimp only at hSw);obtain ⟨⟨z0,z1,z2,z3,z4,z5⟩,y0,y1⟩:=KC.out w hSw;obtain ⟨z6,z7⟩:=KL.out w hSw;go_simp;(try with_reducible rfl))
 try simp only [pu]
 refine tk (i:=4) (v:=?v5) rfl ?y5 ?r5
 case y5 => (intro w hSw;(try dsimp only at hSw);go_simp;(try with_reducible rfl))
 try simp only [pu]
 refine tk (i:=5) (v:=?v6) rfl ?y6 ?r6
 case y6 => (intro w hSw;(try dsimp only at hSw);go_simp;(try with_reducible rfl))
 try simp only [pu]
 refine tk (i:=6) (v:=?v7) rfl ?y7 ?r7
 case y7 => (intro w hSw;(try dsimp only at hSw);obtain ⟨⟨z0,z1,z2,z3,z4,z5⟩,y0,y1⟩:=KC.out w hSw;obtain ⟨z6,z7⟩:=KL.out w hSw;go_simp;(try with_reducible rfl))
 try simp only [pu]
 refine tk (i:=7) (v:=?v8) rfl ?y8 ?r8
 case y8 => (intro w hSw;(try dsimp only at hSw);go_simp;(try with_reducible rfl))
 try simp only [pu]
 refine tk (i:=8) (v:=?v9) rfl ?y9 ?r9
 case y9 => (intro w hSw;(try dsimp only at hSw);obtain ⟨⟨z0,z1,z2,z3,z4,z5⟩,y0,y1⟩:=KC.out w hSw;obtain ⟨z6,z7⟩:=KL.out w hSw;go_simp;(try with_reducible rfl))
 try simp only [pu]
 refine tk (i:=9) (v:=?v10) rfl ?y10 ?r10
 case y10 => (intro w hSw;(try dsimp only at hSw);go_simp;(try with_reducible rfl))
 try simp only [pu]
 refine tk (i:=10) (v:=?v11) rfl ?y11 ?r11
 case y11 => (intro w hSw;(try dsimp only at hSw);obtain ⟨⟨z0,z1,z2,z3,z4,z5⟩,y0,y1⟩:=KC.out w hSw;obtain ⟨z6,z7⟩:=KL.out w hSw;go_simp;(try with_reducible rfl))
 try simp only [pu]
 refine wpAnyH_ready (rs:=[11]) (by kernel_rfl) (by simp) ?_
 refine AllReadyH.cons (i:=11) rfl (fun K2 hK2 => ?_) AllReadyH.nil
 go_simp
 go_at_call 63
 refine (HTX.out w2.drew).mono ?_
 rintro ev w701 ⟨rfl,bw701⟩
 try go_wp2_with fail
 obtain ⟨Kw701,fw701⟩:=st_call ((But.refl (fun _ => False) w2).drew) bw701
 have Kw701:=hid Kw701
 clear bw701 fw701
 refine hK2.out _ _ Kw701.out (fun hHeld2 => ?_)
 clear hK2 K2
 try simp only [pu]
 refine tk (i:=12) (v:=?v12) rfl ?y12 ?r12
 case y12 => (intro w hSw;(try dsimp only at hSw);go_simp;(try with_reducible rfl))
 try simp only [pu]
 refine wpAnyH_done (by kernel_rfl) ?_ _
 obtain ⟨w3,hnw3⟩:∃ x,w701 = x:=⟨_,rfl⟩
 have Bw3:Hid (Below w2.heap.size w2 w3):=hid (by rw [← hnw3];exact But.to_below Kw701.out (Nat.le_refl _) (fun _ _ q => q))
 rw [hnw3]
 clear hnw3 hHeld hHeld2
 have K23:Hid (But (fun _ => False) w2 w3):=hid (But.of_below Bw3.out (fun k h1 h2 => by omega))
 have KC3:Hid (∀ w',But (fun _ => False) w3 w' → _):=hid (fun w' hb => KC.out w' (K23.out.trans hb))
 have KS3:Hid (∀ w',But (fun _ => False) w3 w' → _):=hid (fun w' hb => KS.out w' (K23.out.trans hb))
 go_wp2_with fail
 refine wp_region_held_drew (S:=But (fun _ => False) w3) (by kernel_rfl) (But.refl _ _).drew (fun hHeld => ?_)
 refine tk (i:=0) (v:=?v13) rfl ?y13 ?r13
 case y13 => (intro w hSw;(try dsimp only at hSw);go_simp;(try with_reducible rfl))
 try simp only [pu]
 refine tk (i:=1) (v:=?v14) rfl ?y14 ?r14
 case y14 => (intro w hSw;(try dsimp only at hSw);go_simp;(try with_reducible rfl))
 try simp only [pu]
 refine tk (i:=2) (v:=?v15) rfl ?y15 ?r15
 case y15 => (intro w hSw;(try dsimp only at hSw);go_simp;(try with_reducible rfl))
 try simp only [pu]
 refine tk (i:=3) (v:=?v16) rfl ?y16 ?r16
 case y16 => (intro w hSw;(try dsimp only at hSw);obtain ⟨⟨z0,z1,z2,z3,z4,z5⟩,y0,y1⟩:=KC3.out w hSw;go_simp;(try with_reducible rfl))
 try simp only [pu]
 refine tk (i:=4) (v:=?v17) rfl ?y17 ?r17
 case y17 => (intro w hSw;(try dsimp only at hSw);go_simp;(try with_reducible rfl))
 try simp only [pu]
 refine tk (i:=5) (v:=?v18) rfl ?y18 ?r18
 case y18 => (intro w hSw;(try dsimp only at hSw);obtain ⟨⟨z0,z1,z2,z3,z4,z5⟩,y0,y1⟩:=KC3.out w hSw;go_simp;(try with_reducible rfl))
 try simp only [pu]
 refine tk (i:=6) (v:=?v19) rfl ?y19 ?r19
 case y19 => (intro w hSw;(try dsimp only at hSw);go_simp;(try with_reducible rfl))
 try simp only [pu]
 refine tk (i:=7) (v:=?v20) rfl ?y20 ?r20
 case y20 => (intro w hSw;(try dsimp only at hSw);go_simp;(try with_reducible rfl))
 try simp only [pu]
 refine tk (i:=8) (v:=?v21) rfl ?y21 ?r21
 case y21 => (intro w hSw;(try dsimp only at hSw);go_simp;(try with_reducible rfl))
 try simp only [pu]
 refine tk (i:=9) (v:=?v22) rfl ?y22 ?r22
 case y22 => (intro w hSw;(try dsimp only at hSw);obtain ⟨⟨z0,z1,z2,z3,z4,z5⟩,y0,y1⟩:=KC3.out w hSw;go_simp;(try with_reducible rfl))
 try simp only [pu]
 refine tk (i:=10) (v:=?v23) rfl ?y23 ?r23
 case y23 => (intro w hSw;(try dsimp only at hSw);go_simp;(try with_reducible rfl))
 try simp only [pu]
 refine tk (i:=11) (v:=?v24) rfl ?y24 ?r24
 case y24 => (intro w hSw;(try dsimp only at hSw);go_simp;(try with_reducible rfl))
 try simp only [pu]
 refine tk (i:=12) (v:=?v25) rfl ?y25 ?r25
 case y25 => (intro w hSw;(try dsimp only at hSw);have z9:=KS3.out w hSw;go_simp;(try with_reducible rfl))
 try simp only [pu]
 refine wpAnyH_ready (rs:=[13]) (by kernel_rfl) (by simp) ?_
 refine AllReadyH.cons (i:=13) rfl (fun K2 hK2 => ?_) AllReadyH.nil
 go_simp
 go_at_call 63
 refine (HTY.out w3.drew).mono ?_
 rintro ev w702 ⟨rfl,bw702⟩
 try go_wp2_with fail
 obtain ⟨Kw702,fw702⟩:=st_call ((But.refl (fun _ => False) w3).drew) bw702
 have Kw702:=hid Kw702
 clear bw702 fw702
 refine hK2.out _ _ Kw702.out (fun hHeld2 => ?_)
 clear hK2 K2
 try simp only [pu]
 refine tk (i:=14) (v:=?v26) rfl ?y26 ?r26
 case y26 => (intro w hSw;(try dsimp only at hSw);go_simp;(try with_reducible rfl))
 try simp only [pu]
 refine wpAnyH_done (by kernel_rfl) ?_ _
 obtain ⟨w4,hnw4⟩:∃ x,w702 = x:=⟨_,rfl⟩
 have Bw4:Hid (Below w3.heap.size w3 w4):=hid (by rw [← hnw4];exact But.to_below Kw702.out (Nat.le_refl _) (fun _ _ q => q))
 rw [hnw4]
 clear hnw4 hHeld hHeld2
 have HB4:Hid (Below w.heap.size w w4):=hid (HB2.out.trans ((Bw3.out.trans (Bw4.out.mono Bw3.out.size)).mono HB2.out.size))
 by_cases hq:bOf y = bOf d
 ·obtain rfl:y = d:=bOf_inj hq
  have hdd:(strOf (0 :: bOf y) == strOf (0 :: bOf y)) = true:=(Go.MapKept.bytes_beq _ _).2 rfl
  go_wp2_with fail
  go_ret3
  have hr0:res = none:=by have:=HRES.out;simpa using this.symm
  exact ⟨by rw [hr0];rfl,HB4.out⟩
 ·obtain ⟨sx,hsx⟩:∃ s,strOf (0 :: bOf y) = s:=⟨_,rfl⟩
  obtain ⟨sy,hsy⟩:∃ s,strOf (0 :: bOf d) = s:=⟨_,rfl⟩
  have hdy:sx ≠ sy:=fun q => hq (by
   rw [← hsx,← hsy] at q
   have:=congrArg bOf q
   rw [bOf_strOf,bOf_strOf] at this
   simpa using this)
  have HSX:=hid (And.intro hsx hsy)
  rw [hsx,hsy]
  have hq1:¬ sx.toList = sy.toList:=str_ne20 hdy
  have hq2:decide (sx.toList = sy.toList) = false:=by simp [hq1]
  have hq3:(sx.toList == sy.toList) = false:=by simp [hq1]
  have hq4:decide (sx = sy) = false:=by simp [hdy]
  have hq5:(sx == sy) = false:=by cases h:(sx == sy) with | false => rfl | true => exact absurd ((Go.MapKept.bytes_beq sx sy).1 h) hdy
  clear hsx hsy
  go_wp2_with fail
  go_ret3
  exact ⟨by rw [← HRES.out,if_neg hq];unfold PV;rw [← HSX.out.1,← HSX.out.2];rfl,HB4.out⟩
theorem parts20_node (base b2 G:Nat) (v:Value) (L:List ByteArray) (l:List (Int × Int)) (As:Option Addr) (cs:Nat) (P:List (List UInt8)) (A:Option Addr) (m c begin:Nat) (S:Option Addr) (n cap:Nat) (D:List ByteArray) (old:Nat) (b0:List UInt8) (sd:Int × Int → Option (List UInt8)) (b e:Int) (w:World) (h:Giv base b2 G v L l As cs P A m c begin S n cap D old b0 sd w) (hbe:PB (b,e)) (hs:sd (b,e) = none) (h2:2 ≤ e - b) (h3:e ≤ 1048576) (m':Int) (hm:b+blwI (e - b) = m') (p q x y:List UInt8) (lp:p.length = 32) (lq:q.length = 32) (lx:x.length = 32) (ly:y.length = 32) (rl rr:Option (List UInt8 × List UInt8))
 (hT1:∀ w',Below w.heap.size w w' → Calls Tryz.prog 66 #[.pointer (some ⟨G,0,none⟩),.agg #[.int .u64 b,.int .u64 m']] w' fun ev w2 => ev = .returned (hv p) ∧ Below w'.heap.size w' w2)
 (hT2:∀ w',Below w.heap.size w w' → Calls Tryz.prog 66 #[.pointer (some ⟨G,0,none⟩),.agg #[.int .u64 m',.int .u64 e]] w' fun ev w2 => ev = .returned (hv q) ∧ Below w'.heap.size w' w2)
 (hS1:∀ w',Below w.heap.size w w' → Calls Tryz.prog 70 #[.pointer (some ⟨G,0,none⟩),.agg #[.int .u64 b,.int .u64 m']] w' fun ev w2 => ev = .returned (hv x) ∧ Below w'.heap.size w' w2)
 (hS2:∀ w',Below w.heap.size w w' → Calls Tryz.prog 70 #[.pointer (some ⟨G,0,none⟩),.agg #[.int .u64 m',.int .u64 e]] w' fun ev w2 => ev = .returned (hv y) ∧ Below w'.heap.size w' w2)
 (hP1:∀ w',Below w.heap.size w w' → Calls Tryz.prog 33 #[.pointer (some ⟨G,0,none⟩),.agg #[.int .u64 b,.int .u64 m']] w' fun ev w2 => ev = .returned (PV rl) ∧ Below w'.heap.size w' w2)
 (hP2:∀ w',Below w.heap.size w w' → Calls Tryz.prog 33 #[.pointer (some ⟨G,0,none⟩),.agg #[.int .u64 m',.int .u64 e]] w' fun ev w2 => ev = .returned (PV rr) ∧ Below w'.heap.size w' w2) :
 Calls Tryz.prog 33 #[.pointer (some ⟨G,0,none⟩),.agg #[.int .u64 b,.int .u64 e]] w fun ev w' => ev = .returned (PV (if p ++ q = x ++ y then (match (generalizing:=false) rl with | some r => some r | none => rr) else some (1 :: (p ++ q),1 :: (x ++ y)))) ∧ Below w.heap.size w w':=by
 obtain ⟨res,hres⟩:∃ r,(if p ++ q = x ++ y then (match (generalizing:=false) rl with | some r => some r | none => rr) else some (1 :: (p ++ q),1 :: (x ++ y))) = r:=⟨_,rfl⟩
 rw [hres]
 have HRES:=hid hres
 clear hres
 obtain ⟨wv,hwv⟩:∃ y,(w.alloc (.cells #[.int .u64 b,.int .u64 e] 84)) = y:=⟨_,rfl⟩
 have HB:Hid (Below w.heap.size w wv):=hid (by rw [← hwv];exact ((Below.refl _ _).alloc (by simp;try omega) _))
 have HSV:Hid (wv.heap.size = w.heap.size+1):=hid (by rw [← hwv];simp)
 have RX:Hid (wv.heap[w.heap.size]? = some (.cells #[.int .u64 b,.int .u64 e] 84 (0,0))):=hid (by rw [← hwv];exact heap_at _ _ _ rfl)
 have HWV:=hid hwv
 obtain ⟨vx,evx,HVX,Zvx,Ivx,Ovx⟩:=span_row b e
 have HG:=hid h
 have HLEN:((sd (b,e)).getD zeroH).length = 32:=by
  cases q:sd (b,e) with
  | none => exact zeroH_length
  | some x => exact h.len _ _ q
 obtain ⟨vq,evq,Hvq,Zvq,Ivq,Ovq⟩:=row_of _ HLEN
 have HHAS:Hid (Calls Tryz.prog 69 #[.pointer (some ⟨G,0,none⟩),.agg vx] wv fun ev w' => ev = .returned (.tuple #[.agg vq,.bool (sd (b,e)).isSome]) ∧ Below wv.heap.size wv w'):=hid (by
  have:=has20_any base b2 G v L l As cs P A m c begin S n cap D old b0 sd b e wv (h.below HB.out) hbe
  rw [evx,evq] at this;exact this)
 have RXx:Hid (wv.heap[w.heap.size]? = some (.cells vx 84 (0,0))):=hid (by rw [HVX.out];exact RX.out)
 have EVQ:=hid evq
 have hsm:(sd (b,e)).isSome = false:=by rw [hs];rfl
 obtain ⟨va,eva,HVA,Zva,Iva,Ova⟩:=span_row b m'
 obtain ⟨vb,evb,HVB,Zvb,Ivb,Ovb⟩:=span_row m' e
 obtain ⟨vp,evp,Hvp,Zvp,Ivp,Ovp⟩:=row_of p lp
 obtain ⟨vr,evr,Hvr,Zvr,Ivr,Ovr⟩:=row_of q lq
 obtain ⟨vs,evs,Hvs,Zvs,Ivs,Ovs⟩:=row_of x lx
 obtain ⟨vt,evt,Hvt,Zvt,Ivt,Ovt⟩:=row_of y ly
 have HHALF:Hid (∀ w',Calls Tryz.prog 64 #[.agg vx] w' fun ev w2 => ev = .returned (.tuple #[.agg va,.agg vb]) ∧ Below w'.heap.size w' w2):=hid (fun w' => by
  have:=halves20_any b e w' hbe.1 h2 (by omega)
  rw [hm,evx,eva,evb] at this;exact this)
 rw [eva] at hT1 hS1 hP1
 rw [evb] at hT2 hS2 hP2
 rw [evp] at hT1
 rw [evr] at hT2
 rw [evs] at hS1
 rw [evt] at hS2
 have HT1:=hid hT1
 have HT2:=hid hT2
 have HS1':=hid hS1
 have HS2':=hid hS2
 have HP1:=hid hP1
 have HP2:=hid hP2
 have HN1:Hid (∀ w',Calls Tryz.prog 65 #[.agg vp,.agg vr] w' fun ev w2 => ev = .returned (.string (strOf (1 :: (p ++ q)))) ∧ Below w'.heap.size w' w2):=hid (fun w' => by
  have:=nt_text p q w' lp lq
  rw [evp,evr] at this;exact this)
 have HN2:Hid (∀ w',Calls Tryz.prog 65 #[.agg vs,.agg vt] w' fun ev w2 => ev = .returned (.string (strOf (1 :: (x ++ y)))) ∧ Below w'.heap.size w' w2):=hid (fun w' => by
  have:=nt_text x y w' lx ly
  rw [evs,evt] at this;exact this)
 obtain ⟨sx,hsx⟩:∃ s,strOf (1 :: (p ++ q)) = s:=⟨_,rfl⟩
 obtain ⟨sy,hsy⟩:∃ s,strOf (1 :: (x ++ y)) = s:=⟨_,rfl⟩
 rw [hsx] at HN1
 rw [hsy] at HN2
 have HSX:=hid (And.intro hsx hsy)
 have q1:(e - b == 1) = false:=by simp;omega
 have hb0:0 ≤ b:=hbe.1
 have he1:e < 18446744073709551616:=hbe.2.2.2
 clear hwv h evx evq eva evb evp evr evs evt hbe HLEN hs hT1 hT2 hS1 hS2 hP1 hP2 lp lq lx ly hm hsx hsy
 go_enter Tryz.func33,Tryz.ntmps33
 go_upto_region 1 with fail
 rw [HWV.out]
 go_wp2_with (refine wpList_load_row rfl 84 _ rfl w.heap.size rfl 84 vx (0,0) _ RXx.out Tryz.underlying84 rfl Ivx.out ?_)
 refine HHAS.out.mono ?_
 rw [hsm]
 rintro ev w1 ⟨rfl,b1⟩
 have B1:=hid b1
 have HS1:Hid (wv.heap.size ≤ w1.heap.size):=hid b1.size
 clear b1
 go_upto_region 2 with (refine wpList_store_row_any rfl 39 _ _ rfl w1.heap.size vq rfl rfl 39 _ (heap_at _ _ _ rfl) Ivq.out (by rw [Zvq.out];rfl) Ovq.out ?_;intro w2 hbN hgN hsN;have B12:Hid (Below w1.heap.size w1 w2):=hid (((Below.refl _ w1).alloc (Nat.le_refl _) _).trans (hbN.to_below (by simp) (fun k hk q => by omega)));have RQ:=hid hgN;clear hbN hgN hsN)
 have BV2:Hid (Below wv.heap.size wv w2):=hid (B1.out.trans (B12.out.mono HS1.out))
 have HB2:Hid (Below w.heap.size w w2):=hid (HB.out.trans (BV2.out.mono HB.out.size))
 have HV2:Hid (wv.heap.size ≤ w2.heap.size):=hid BV2.out.size
 have RX2:Hid (w2.heap[w.heap.size]? = some (.cells vx 84 (0,0))):=hid ((BV2.out.block _ (by have:=HSV.out;omega)).trans RXx.out)
 have HG2:=hid (HG.out.below HB2.out)
 have x0:w2.cell? ⟨w.heap.size,0,none⟩ = some (.int .u64 b):=by rw [cell_of_row w2 w.heap.size 0 _ 84 (0,0) RX2.out,HVX.out];rfl
 have x1:w2.cell? ⟨w.heap.size,1,none⟩ = some (.int .u64 e):=by rw [cell_of_row w2 w.heap.size 1 _ 84 (0,0) RX2.out,HVX.out];rfl
 go_wp2_with (refine wpList_load_row rfl 84 _ rfl w.heap.size rfl 84 vx (0,0) _ RX2.out Tryz.underlying84 rfl Ivx.out ?_)
 refine (HHALF.out w2).mono ?_
 rintro ev w5 ⟨rfl,b5⟩
 have B5:=hid b5
 have HS5:Hid (w2.heap.size ≤ w5.heap.size):=hid b5.size
 clear b5
 go_upto_region 11 with (first
  | (refine wpList_store_row_any rfl 84 _ _ rfl w5.heap.size va rfl rfl 84 _ ((((Below.refl _ (w5.alloc _)).alloc (Nat.le_refl _) _).block _ (by simp)).trans (heap_at _ _ _ rfl)) Iva.out (by rw [Zva.out];rfl) Ova.out ?_;intro w6 hbA hgA hsA;have BA:=hid hbA;have GA:=hid hgA;have SA:Hid (w6.heap.size = w5.heap.size+1+1):=hid (hsA.trans (by simp));clear hbA hgA hsA)
  | (refine wpList_store_row_any rfl 84 _ _ rfl (w5.heap.size+1) vb rfl rfl 84 _ ((BA.out.same _ (by simp) (by omega)).trans (heap_at _ _ _ (by simp))) Ivb.out (by rw [Zvb.out];rfl) Ovb.out ?_;intro wy hbB hgB hsB;have BC:=hid hbB;have RBy:=hid hgB;have SB:Hid (wy.heap.size = w5.heap.size+1+1):=hid (hsB.trans SA.out);clear hbB hgB hsB))
 have B5Y:Hid (Below w5.heap.size w5 wy):=hid ((((Below.refl _ _).alloc (Nat.le_refl _) _).alloc (by simp) _).trans (((BA.out.mono (T:=fun k => k = w5.heap.size ∨ k = w5.heap.size+1) (fun _ _ q => .inl q)).step BC.out (fun _ _ q => .inr q)).to_below (by simp;omega) (fun k hk q => by omega)))
 have RAy:Hid (wy.heap[w5.heap.size]? = some (.cells va 84 (0,0))):=hid ((BC.out.same _ (by have:=SA.out;omega) (by omega)).trans GA.out)
 have B2Y:Hid (Below w2.heap.size w2 wy):=hid (B5.out.trans (B5Y.out.mono HS5.out))
 have HBY:Hid (Below w.heap.size w wy):=hid (HB2.out.trans (B2Y.out.mono HB2.out.size))
 have LY:Hid (w.heap.size < w5.heap.size ∧ w5.heap.size+1 < wy.heap.size):=hid ⟨by have:=HS5.out;have:=HV2.out;have:=HSV.out;omega,by have:=SB.out;omega⟩
 clear x0 x1
 refine wp_region_held_drew (S:=But (fun _ => False) wy) (by kernel_rfl) (But.refl _ _).drew (fun hHeld => ?_)
 refine tk (i:=0) (v:=?v27) rfl ?y27 ?r27
 case y27 => (intro w hSw;(try dsimp only at hSw);go_simp;(try with_reducible rfl))
 try simp only [pu]
 refine tw (i:=1) rfl (yieldsIf_load_row (by rfl) 84 _ (by rfl) w5.heap.size (by rfl) 84 va (0,0) _ (fun w h => (But.same h _ (by have:=(Array.getElem?_eq_some_iff.1 RAy.out).1;exact this) (fun q => q)).trans RAy.out) Tryz.underlying84 rfl Iva.out) ?_
 try simp only [pu]
 refine tk (i:=3) (v:=?v29) rfl ?y29 ?r29
 case y29 => (intro w hSw;(try dsimp only at hSw);go_simp;(try with_reducible rfl))
 try simp only [pu]
 refine tw (i:=4) rfl (yieldsIf_load_row (by rfl) 84 _ (by rfl) (w5.heap.size+1) (by rfl) 84 vb (0,0) _ (fun w h => (But.same h _ (by have:=(Array.getElem?_eq_some_iff.1 RBy.out).1;exact this) (fun q => q)).trans RBy.out) Tryz.underlying84 rfl Ivb.out) ?_
 try simp only [pu]
 refine wpAnyH_ready (rs:=[2]) (by kernel_rfl) (by simp) ?_
 refine AllReadyH.cons (i:=2) rfl (fun K2 hK2 => ?_) AllReadyH.nil
 go_simp
 go_at_call 66
 refine (HT1.out wy.drew (HBY.out.trans (But.to_below ((But.refl (fun _ => False) wy).drew) HBY.out.size (fun _ _ q => q)))).mono ?_
 rintro ev w703 ⟨rfl,bw703⟩
 try go_wp2_with fail
 obtain ⟨Kw703,fw703⟩:=st_call ((But.refl (fun _ => False) wy).drew) bw703
 have Kw703:=hid Kw703
 clear bw703 fw703
 refine hK2.out _ _ Kw703.out (fun hHeld2 => ?_)
 clear hK2 K2
 try simp only [pu]
 refine wpAnyH_ready (rs:=[5]) (by kernel_rfl) (by simp) ?_
 refine AllReadyH.cons (i:=5) rfl (fun K2 hK2 => ?_) AllReadyH.nil
 go_simp
 go_at_call 66
 refine (HT2.out w703 (HBY.out.trans (But.to_below Kw703.out HBY.out.size (fun _ _ q => q)))).mono ?_
 rintro ev w704 ⟨rfl,bw704⟩
 try go_wp2_with fail
 obtain ⟨Kw704,fw704⟩:=st_call Kw703.out bw704
 have Kw704:=hid Kw704
 clear bw704 fw704
 refine hK2.out _ _ Kw704.out (fun hHeld2 => ?_)
 clear hK2 K2
 try simp only [pu]
 refine wpAnyH_ready (rs:=[6]) (by kernel_rfl) (by simp) ?_
 refine AllReadyH.cons (i:=6) rfl (fun K2 hK2 => ?_) AllReadyH.nil
 go_simp
 go_at_call 65
 refine (HN1.out w704).mono ?_
 rintro ev w705 ⟨rfl,bw705⟩
 try go_wp2_with fail
 obtain ⟨Kw705,fw705⟩:=st_call Kw704.out bw705
 have Kw705:=hid Kw705
 clear bw705 fw705
 refine hK2.out _ _ Kw705.out (fun hHeld2 => ?_)
 clear hK2 K2
 try simp only [pu]
 refine tk (i:=7) (v:=?v31) rfl ?y31 ?r31
 case y31 => (intro w hSw;(try dsimp only at hSw);go_simp;(try with_reducible rfl))
 try simp only [pu]
 refine wpAnyH_done (by kernel_rfl) ?_ _
 obtain ⟨wz,hnwz⟩:∃ x,w705 = x:=⟨_,rfl⟩
 have Bwz:Hid (Below wy.heap.size wy wz):=hid (by rw [← hnwz];exact But.to_below Kw705.out (Nat.le_refl _) (fun _ _ q => q))
 rw [hnwz]
 clear hnwz hHeld hHeld2
 have HBZ:Hid (Below w.heap.size w wz):=hid (HBY.out.trans (Bwz.out.mono HBY.out.size))
 have RAz:Hid (wz.heap[w5.heap.size]? = some (.cells va 84 (0,0))):=hid ((Bwz.out.block _ (Array.getElem?_eq_some_iff.1 RAy.out).1).trans RAy.out)
 have RBz:Hid (wz.heap[w5.heap.size+1]? = some (.cells vb 84 (0,0))):=hid ((Bwz.out.block _ (Array.getElem?_eq_some_iff.1 RBy.out).1).trans RBy.out)
 go_wp2_with fail
 refine wp_region_held_drew (S:=But (fun _ => False) wz) (by kernel_rfl) (But.refl _ _).drew (fun hHeld => ?_)
 refine tk (i:=0) (v:=?v32) rfl ?y32 ?r32
 case y32 => (intro w hSw;(try dsimp only at hSw);go_simp;(try with_reducible rfl))
 try simp only [pu]
 refine tw (i:=1) rfl (yieldsIf_load_row (by rfl) 84 _ (by rfl) w5.heap.size (by rfl) 84 va (0,0) _ (fun w h => (But.same h _ (by have:=(Array.getElem?_eq_some_iff.1 RAz.out).1;exact this) (fun q => q)).trans RAz.out) Tryz.underlying84 rfl Iva.out) ?_
 try simp only [pu]
 refine tk (i:=3) (v:=?v34) rfl ?y34 ?r34
 case y34 => (intro w hSw;(try dsimp only at hSw);go_simp;(try with_reducible rfl))
 try simp only [pu]
 refine tw (i:=4) rfl (yieldsIf_load_row (by rfl) 84 _ (by rfl) (w5.heap.size+1) (by rfl) 84 vb (0,0) _ (fun w h => (But.same h _ (by have:=(Array.getElem?_eq_some_iff.1 RBz.out).1;exact this) (fun q => q)).trans RBz.out) Tryz.underlying84 rfl Ivb.out) ?_
 try simp only [pu]
 refine wpAnyH_ready (rs:=[2]) (by kernel_rfl) (by simp) ?_
 refine AllReadyH.cons (i:=2) rfl (fun K2 hK2 => ?_) AllReadyH.nil
 go_simp
 go_at_call 70
 refine (HS1'.out wz.drew (HBZ.out.trans (But.to_below ((But.refl (fun _ => False) wz).drew) HBZ.out.size (fun _ _ q => q)))).mono ?_
 rintro ev w706 ⟨rfl,bw706⟩
 try go_wp2_with fail
 obtain ⟨Kw706,fw706⟩:=st_call ((But.refl (fun _ => False) wz).drew) bw706
 have Kw706:=hid Kw706
 clear bw706 fw706
 refine hK2.out _ _ Kw706.out (fun hHeld2 => ?_)
 clear hK2 K2
 try simp only [pu]
 refine wpAnyH_ready (rs:=[5]) (by kernel_rfl) (by simp) ?_
 refine AllReadyH.cons (i:=5) rfl (fun K2 hK2 => ?_) AllReadyH.nil
 go_simp
 go_at_call 70
 refine (HS2'.out w706 (HBZ.out.trans (But.to_below Kw706.out HBZ.out.size (fun _ _ q => q)))).mono ?_
 rintro ev w707 ⟨rfl,bw707⟩
 try go_wp2_with fail
 obtain ⟨Kw707,fw707⟩:=st_call Kw706.out bw707
 have Kw707:=hid Kw707
 clear bw707 fw707
 refine hK2.out _ _ Kw707.out (fun hHeld2 => ?_)
 clear hK2 K2
 try simp only [pu]
 refine wpAnyH_ready (rs:=[6]) (by kernel_rfl) (by simp) ?_
 refine AllReadyH.cons (i:=6) rfl (fun K2 hK2 => ?_) AllReadyH.nil
 go_simp
 go_at_call 65
 refine (HN2.out w707).mono ?_
 rintro ev w708 ⟨rfl,bw708⟩
 try go_wp2_with fail
 obtain ⟨Kw708,fw708⟩:=st_call Kw707.out bw708
 have Kw708:=hid Kw708
 clear bw708 fw708
 refine hK2.out _ _ Kw708.out (fun hHeld2 => ?_)
 clear hK2 K2
 try simp only [pu]
 refine tk (i:=7) (v:=?v36) rfl ?y36 ?r36
 case y36 => (intro w hSw;(try dsimp only at hSw);go_simp;(try with_reducible rfl))
 try simp only [pu]
 refine wpAnyH_done (by kernel_rfl) ?_ _
 obtain ⟨wu,hnwu⟩:∃ x,w708 = x:=⟨_,rfl⟩
 have Bwu:Hid (Below wz.heap.size wz wu):=hid (by rw [← hnwu];exact But.to_below Kw708.out (Nat.le_refl _) (fun _ _ q => q))
 rw [hnwu]
 clear hnwu hHeld hHeld2
 have HBU:Hid (Below w.heap.size w wu):=hid (HBZ.out.trans (Bwu.out.mono HBZ.out.size))
 have RAu:Hid (wu.heap[w5.heap.size]? = some (.cells va 84 (0,0))):=hid ((Bwu.out.block _ (Array.getElem?_eq_some_iff.1 RAz.out).1).trans RAz.out)
 have RBu:Hid (wu.heap[w5.heap.size+1]? = some (.cells vb 84 (0,0))):=hid ((Bwu.out.block _ (Array.getElem?_eq_some_iff.1 RBz.out).1).trans RBz.out)
 by_cases hq:p ++ q = x ++ y
 ·obtain rfl:sx = sy:=by rw [← HSX.out.1,← HSX.out.2,hq]
  have hdd:(sx == sx) = true:=(Go.MapKept.bytes_beq _ _).2 rfl
  have HQ:=hid hq
  clear hq
  cases rl with
  | some r =>
   simp only [PV] at HP1
   go_wp2_with (refine wpList_load_row rfl 84 _ rfl w5.heap.size rfl 84 va (0,0) _ RAu.out Tryz.underlying84 rfl Iva.out ?_)
   refine (HP1.out wu HBU.out).mono ?_
   rintro ev w7 ⟨rfl,b7⟩
   have HB7:Hid (Below w.heap.size w w7):=hid (HBU.out.trans (b7.mono HBU.out.size))
   clear b7
   go_wp2_with fail
   go_ret3
   exact ⟨by rw [← HRES.out,if_pos HQ.out];rfl,HB7.out⟩
  | none =>
   simp only [PV] at HP1
   go_wp2_with (refine wpList_load_row rfl 84 _ rfl w5.heap.size rfl 84 va (0,0) _ RAu.out Tryz.underlying84 rfl Iva.out ?_)
   refine (HP1.out wu HBU.out).mono ?_
   rintro ev w7 ⟨rfl,b7⟩
   have HB7:Hid (Below w.heap.size w w7):=hid (HBU.out.trans (b7.mono HBU.out.size))
   have RB7:Hid (w7.heap[w5.heap.size+1]? = some (.cells vb 84 (0,0))):=hid ((b7.block _ (Array.getElem?_eq_some_iff.1 RBu.out).1).trans RBu.out)
   clear b7
   cases rr with
   | some r =>
    simp only [PV] at HP2
    go_wp2_with (refine wpList_load_row rfl 84 _ rfl (w5.heap.size+1) rfl 84 vb (0,0) _ RB7.out Tryz.underlying84 rfl Ivb.out ?_)
    refine (HP2.out w7 HB7.out).mono ?_
    rintro ev w8 ⟨rfl,b8⟩
    have HB8:Hid (Below w.heap.size w w8):=hid (HB7.out.trans (b8.mono HB7.out.size))
    clear b8
    go_wp2_with fail
    go_ret3
    exact ⟨by rw [← HRES.out,if_pos HQ.out];rfl,HB8.out⟩
   | none =>
    simp only [PV] at HP2
    go_wp2_with (refine wpList_load_row rfl 84 _ rfl (w5.heap.size+1) rfl 84 vb (0,0) _ RB7.out Tryz.underlying84 rfl Ivb.out ?_)
    refine (HP2.out w7 HB7.out).mono ?_
    rintro ev w8 ⟨rfl,b8⟩
    have HB8:Hid (Below w.heap.size w w8):=hid (HB7.out.trans (b8.mono HB7.out.size))
    clear b8
    go_wp2_with fail
    go_ret3
    exact ⟨by rw [← HRES.out,if_pos HQ.out];rfl,HB8.out⟩
 ·have hdy:sx ≠ sy:=fun e' => hq (by
   rw [← HSX.out.1,← HSX.out.2] at e'
   have:=congrArg bOf e'
   rw [bOf_strOf,bOf_strOf] at this
   simpa using this)
  have hq1:¬ sx.toList = sy.toList:=str_ne20 hdy
  have hq2:decide (sx.toList = sy.toList) = false:=by simp [hq1]
  have hq3:(sx.toList == sy.toList) = false:=by simp [hq1]
  have hq4:decide (sx = sy) = false:=by simp [hdy]
  have hq5:(sx == sy) = false:=by cases h:(sx == sy) with | false => rfl | true => exact absurd ((Go.MapKept.bytes_beq sx sy).1 h) hdy
  go_wp2_with fail
  go_ret3
  exact ⟨by rw [← HRES.out,if_neg hq];unfold PV;rw [← HSX.out.1,← HSX.out.2];rfl,HBU.out⟩
theorem parts20_any (base b2 G:Nat) (v:Value) (L:List ByteArray) (l:List (Int × Int)) (As:Option Addr) (cs:Nat) (P:List (List UInt8)) (A:Option Addr) (m c begin:Nat) (S:Option Addr) (n cap:Nat) (D:List ByteArray) (old:Nat) (b0:List UInt8) (sd:Int × Int → Option (List UInt8)):∀ (f:Nat) (b e:Int) (w:World),Giv base b2 G v L l As cs P A m c begin S n cap D old b0 sd w → 0 ≤ b → b < e → e ≤ L.length → e - b ≤ pow2 f → f ≤ 64 → (∀ i,fBare sd f b e i → (begin:Int) ≤ i ∧ i < begin+n) →
 Calls Tryz.prog 33 #[.pointer (some ⟨G,0,none⟩),.agg #[.int .u64 b,.int .u64 e]] w fun ev w' => ev = .returned (PV (fWalk sd (claimLeaf D begin) L (logText L) (claimText D begin) f b e)) ∧ Below w.heap.size w w':=by
 intro f
 induction f with
 | zero =>
  intro b e w h h0 h1 h3 hp hf hc
  rw [pow2_zero] at hp
  have hL:=h.rl.1.1
  have hbe:PB (b,e):=⟨by omega,by omega,by omega,by omega⟩
  rw [fWalk]
  cases q:sd (b,e) with
  | some x => exact parts20_said base b2 G v L l As cs P A m c begin S n cap D old b0 sd b e w h hbe x q
  | none => exact parts20_leaf base b2 G v L l As cs P A m c begin S n cap D old b0 sd b e w h hbe q h1 (by omega) (hc b ⟨q,rfl⟩) h3
 | succ f ih =>
  intro b e w h h0 h1 h3 hp hf hc
  have hL:=h.rl.1.1
  have hbe:PB (b,e):=⟨by omega,by omega,by omega,by omega⟩
  rw [fWalk]
  cases q:sd (b,e) with
  | some x => exact parts20_said base b2 G v L l As cs P A m c begin S n cap D old b0 sd b e w h hbe x q
  | none =>
   by_cases h2:e - b < 2
   ·simp only [if_pos h2]
    exact parts20_leaf base b2 G v L l As cs P A m c begin S n cap D old b0 sd b e w h hbe q h1 h2 (hc b ⟨q,by rw [if_pos h2]⟩) h3
   ·simp only [if_neg h2]
    have hbl:=blwI_bd (n:=e - b) (by omega)
    have hk:=blwI_le_pow (n:=e - b) (f:=f) (by omega) hp
    have hps:=pow2_succ f
    have hl:=fun i hi => hc i ⟨q,by rw [if_neg h2];exact .inl hi⟩
    have hr:=fun i hi => hc i ⟨q,by rw [if_neg h2];exact .inr hi⟩
    have l32:=fSays_len sd (claimLeaf D begin) h.len (fun i => leafH_length _)
    have tr:∀ (x y:Int) (w':World),Below w.heap.size w w' → 0 ≤ x → x < y → y ≤ L.length → Calls Tryz.prog 66 #[.pointer (some ⟨G,0,none⟩),.agg #[.int .u64 x,.int .u64 y]] w' fun ev w2 => ev = .returned (hv (treeB L x y)) ∧ Below w'.heap.size w' w2:=fun x y w' hw hx hxy hy => by
     obtain ⟨x',rfl⟩:∃ z:Nat,x = z:=⟨x.toNat,by omega⟩
     obtain ⟨y',rfl⟩:∃ z:Nat,y = z:=⟨y.toNat,by omega⟩
     have:=h.below hw
     exact tree20_any base b2 G v L x' y' w' this.rl this.c0 (by omega) (by omega)
    exact parts20_node base b2 G v L l As cs P A m c begin S n cap D old b0 sd b e w h hbe q (by omega) (by omega) _ rfl _ _ _ _ (treeB_len _ _ _) (treeB_len _ _ _) (l32 _ _ _) (l32 _ _ _) _ _
     (fun w' hw => tr b (b+blwI (e - b)) w' hw h0 (by omega) (by omega))
     (fun w' hw => tr (b+blwI (e - b)) e w' hw (by omega) (by omega) h3)
     (fun w' hw => says20_any base b2 G v L l As cs P A m c begin S n cap D old b0 sd f b (b+blwI (e - b)) w' (h.below hw) h0 (by omega) (by omega) (by omega) hl)
     (fun w' hw => says20_any base b2 G v L l As cs P A m c begin S n cap D old b0 sd f (b+blwI (e - b)) e w' (h.below hw) (by omega) (by omega) (by omega) (by omega) hr)
     (fun w' hw => ih b (b+blwI (e - b)) w' (h.below hw) h0 (by omega) (by omega) (by omega) (by omega) hl)
     (fun w' hw => ih (b+blwI (e - b)) e w' (h.below hw) (by omega) (by omega) h3 (by omega) (by omega) hr)
end Go.Proofs.YtpdkpdpkggepcaaGreatDoor
