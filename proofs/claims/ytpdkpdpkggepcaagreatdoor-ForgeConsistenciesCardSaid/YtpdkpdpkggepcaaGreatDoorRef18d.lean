import Derived.Test.YtpdkpdpkggepcaaGreatDoorTwinHash
import Derived.Test.YtpdkpdpkggepcaaGreatDoorMem
import Derived.Test.YtpdkpdpkggepcaaGreatDoorRef18
import Derived.Test.YtpdkpdpkggepcaaGreatDoorShapeProof
/- cartularyref18.Steps, sub: what a proof says that both roots are. No condition. -/
namespace Go.Proofs.YtpdkpdpkggepcaaGreatDoor
open Go.ChangeShapes Go.WideShapes Go.ChangeAt Go.RowKit
set_option maxRecDepth 100000
set_option maxHeartbeats 16000000
open Lib (hid)
set_option linter.unusedVariables false
theorem steps18 (old sz:Int) (w:World) (h0:0 < old) (h1:old ≤ sz) (h2:sz ≤ 9223372036854775808):Calls Tryz.prog 81 #[.int .u64 old,.int .u64 sz] w fun ev w' => ev = .returned (.int .i64 (proofL 64 old 0 sz).length) ∧ w = w':=by
 obtain ⟨N,hN⟩:∃ N,(proofL 64 old 0 sz).length = N:=⟨_,rfl⟩
 have hN64:=proofL_len 64 old 0 sz
 rw [hN] at hN64 ⊢
 have HN:=hid hN
 clear hN
 go_enter Tryz.func81,Tryz.ntmps81
 go_wp2
 go_loop [0,1,5,6,7] (fun a s n wh k => ∃ (x y:Int) (j:Nat) (fl:Bool),a = .int .u64 x ∧ s = .int .u64 y ∧ n = .int .i64 j ∧ wh = .bool fl ∧ 1 ≤ x ∧ x ≤ y ∧ y ≤ 9223372036854775808 ∧ j ≤ N ∧ Hid (∃ (f:Nat) (b e:Int),x = old - b ∧ y = e - b ∧ e - b ≤ pow2 f ∧ f ≤ 64 ∧ 0 ≤ b ∧ b < old ∧ old ≤ e ∧ fl = decide (b = 0) ∧ j+(proofL f old b e).length = N)) (fun _ s _ _ _ => (intOf s).toNat)
 case atStart => exact ⟨old,sz,0,true,rfl,rfl,rfl,rfl,by omega,h1,h2,Nat.zero_le _,hid ⟨64,0,sz,by omega,by omega,by rw [pow2_64];omega,by omega,by omega,h0,h1,rfl,by rw [HN.out];omega⟩⟩
 case round =>
  obtain ⟨x,y,j,fl,rfl,rfl,rfl,rfl,hx1,hxy,hy,hj,HP⟩:=hrel
  by_cases hy2:x < y
  ·have hb:=blwI_bd (n:=y) (by omega)
   have HBB:=hid hb
   obtain ⟨k,hk⟩:∃ k,blwI y = k:=⟨_,rfl⟩
   rw [hk] at hb
   have HK:=hid hk
   have hjN:j+1 ≤ N:=by
    obtain ⟨f,b,e,rfl,rfl,q1,q2,q3,q4,q5,q6,q7⟩:=HP.out
    cases f with
    | zero => rw [pow2_zero] at q1;omega
    | succ f => rw [proofL,if_neg (by omega)] at q7;split at q7 <;> (rw [List.length_append] at q7;simp at q7;omega)
   by_cases hlt:x ≤ k
   ·have HP2:Hid (∃ (f:Nat) (b e:Int),x = old - b ∧ k = e - b ∧ e - b ≤ pow2 f ∧ f ≤ 64 ∧ 0 ≤ b ∧ b < old ∧ old ≤ e ∧ fl = decide (b = 0) ∧ j+1+(proofL f old b e).length = N):=hid (by
     obtain ⟨f,b,e,rfl,rfl,q1,q2,q3,q4,q5,q6,q7⟩:=HP.out
     cases f with
     | zero => rw [pow2_zero] at q1;omega
     | succ f =>
      have hkp:=blwI_le_pow (n:=e - b) (f:=f) (by omega) q1
      rw [proofL,if_neg (by omega),HK.out,if_pos (by omega),List.length_append] at q7
      rw [HK.out] at hkp
      exact ⟨f,b,b+k,rfl,by omega,by omega,by omega,q3,q4,by omega,q6,by simp at q7;omega⟩)
    clear hk
    go_wp2_with fail
    refine (half18 y _ (by omega) hy).mono ?_
    rw [HK.out]
    rintro ev w' ⟨rfl,rfl⟩
    go_wp2
    go_round
    case rel => exact ⟨x,k,j+1,fl,by go_num,by go_num,by go_num,rfl,hx1,hlt,by omega,hjN,HP2⟩
    case measure => simp [intOf];omega
   ·have HP2:Hid (∃ (f:Nat) (b e:Int),x - k = old - b ∧ y - k = e - b ∧ e - b ≤ pow2 f ∧ f ≤ 64 ∧ 0 ≤ b ∧ b < old ∧ old ≤ e ∧ false = decide (b = 0) ∧ j+1+(proofL f old b e).length = N):=hid (by
     obtain ⟨f,b,e,rfl,rfl,q1,q2,q3,q4,q5,q6,q7⟩:=HP.out
     cases f with
     | zero => rw [pow2_zero] at q1;omega
     | succ f =>
      have hkp:=blwI_le_pow (n:=e - b) (f:=f) (by omega) q1
      have hps:=pow2_succ f
      rw [proofL,if_neg (by omega),HK.out,if_neg (by omega),List.length_append] at q7
      rw [HK.out] at hkp
      have:=HBB.out
      rw [HK.out] at this
      exact ⟨f,b+k,e,by omega,by omega,by omega,by omega,by omega,by omega,q5,by simp;omega,by simp at q7;omega⟩)
    clear hk
    go_wp2_with fail
    refine (half18 y _ (by omega) hy).mono ?_
    rw [HK.out]
    rintro ev w' ⟨rfl,rfl⟩
    go_wp2
    go_round
    case rel => exact ⟨x - k,y - k,j+1,false,by go_num,by go_num,by go_num,rfl,by omega,by omega,by omega,hjN,HP2⟩
    case measure => simp [intOf];omega
  ·obtain rfl:y = x:=by omega
   have HJ:Hid (j+(if fl = true then 0 else 1) = N):=hid (by
    obtain ⟨f,b,e,q8,q9,q1,q2,q3,q4,q5,q6,q7⟩:=HP.out
    obtain rfl:e = old:=by omega
    rw [proofL_end] at q7
    by_cases hb0:b = 0
    ·rw [if_neg (by omega)] at q7
     rw [q6,if_pos (by simp [hb0])];simpa using q7
    ·rw [if_pos (by omega)] at q7
     rw [q6,if_neg (by simp [hb0])];simpa using q7)
   have hj9:j ≤ 1000:=by omega
   cases fl with
   | true =>
    have HJ2:Hid (j = N):=hid (by have:=HJ.out;simpa using this)
    go_wp2
    go_ret
    exact ⟨by rw [← HJ2.out];rfl,rfl⟩
   | false =>
    have HJ2:Hid (j+1 = N):=hid (by have:=HJ.out;simpa using this)
    go_wp2
    go_ret
    exact ⟨by rw [← HJ2.out];rfl,rfl⟩
theorem sub18_whole (old:Int) (b0:List UInt8) (hb0:b0.length = 32) (b e:Int) (n c:Nat) (A:Option Addr) (w:World) (he:e = old) (h1:b < old) :
 Calls Tryz.prog 82 #[.int .u64 (old - b),.int .u64 (e - b),.bool true,hv b0,.slice A n c] w fun ev w' => ev = .returned (.tuple #[hv b0,hv b0]) ∧ Below w.heap.size w w':=by
 subst he
 obtain ⟨vl,evl,Hvl,Zvl,Ivl,Ovl⟩:=row_of b0 hb0
 obtain ⟨wv,hwv⟩:∃ y,(((w.alloc (.cells vl 39)).alloc (.cells (List.replicate 32 (Value.int .u8 0)).toArray 39)).alloc (.cells (List.replicate 32 (Value.int .u8 0)).toArray 39)) = y:=⟨_,rfl⟩
 have HB:Hid (Below w.heap.size w wv):=hid (by rw [← hwv];exact ((((Below.refl _ _).alloc (by simp;try omega) _).alloc (by simp;try omega) _).alloc (by simp;try omega) _))
 have HSV:Hid (wv.heap.size = w.heap.size+1+1+1):=hid (by rw [← hwv];simp)
 have RL:Hid (wv.heap[w.heap.size]? = some (.cells vl 39 (0,0))):=hid (by rw [← hwv];simp only [World.alloc,Array.getElem?_push,Array.size_push];(repeat' split) <;> first | rfl | (exfalso;omega) | simp_all)
 have RA:Hid (wv.heap[(w.heap.size+1)]? = some (.cells (List.replicate 32 (Value.int .u8 0)).toArray 39 (0,0))):=hid (by rw [← hwv];simp only [World.alloc,Array.getElem?_push,Array.size_push];(repeat' split) <;> first | rfl | (exfalso;omega) | simp_all)
 have RB:Hid (wv.heap[(w.heap.size+1+1)]? = some (.cells (List.replicate 32 (Value.int .u8 0)).toArray 39 (0,0))):=hid (by rw [← hwv];simp only [World.alloc,Array.getElem?_push,Array.size_push];(repeat' split) <;> first | rfl | (exfalso;omega) | simp_all)
 have HWV:=hid hwv
 simp only [List.replicate,List.toArray] at HWV
 have t1:(e - b == e - b) = true:=by simp
 rw [evl]
 clear evl hwv h1
 obtain ⟨X,hX⟩:∃ X,e - b = X:=⟨_,rfl⟩
 rw [hX] at t1 ⊢
 clear hX
 go_enter Tryz.func82,Tryz.ntmps82
 go_upto_region 1 with fail
 rw [HWV.out]
 go_wp2_with fail
 refine wp_region_held_drew (S:=But (fun k => k = w.heap.size+1 ∨ k = w.heap.size+1+1) wv) (by kernel_rfl) (But.refl _ _).drew (fun hHeld => ?_)
 refine tw (i:=0) rfl (yieldsIf_load_row (by rfl) 39 _ (by rfl) w.heap.size (by rfl) 39 vl (0,0) _ (fun w h => (But.same h _ (by have:=HSV.out;omega) (by omega)).trans RL.out) Tryz.underlying39 rfl Ivl.out) ?_
 try simp only [pu]
 refine tw (i:=1) rfl (yieldsIf_load_row (by rfl) 39 _ (by rfl) w.heap.size (by rfl) 39 vl (0,0) _ (fun w h => (But.same h _ (by have:=HSV.out;omega) (by omega)).trans RL.out) Tryz.underlying39 rfl Ivl.out) ?_
 try simp only [pu]
 refine wpAnyH_ready (rs:=[2]) (by kernel_rfl) (by simp) ?_
 refine AllReadyH.cons (i:=2) rfl (fun K2 hK2 => ?_) AllReadyH.nil
 rw [if_pos (by rfl)]
 refine wp_store_row 39 _ _ rfl (w.heap.size+1) vl rfl rfl 39 _ (show wv.drew.heap[(w.heap.size+1)]? = _ from RA.out) Ivl.out (by rw [Zvl.out];rfl) Ovl.out ?_
 obtain ⟨w701,hw701⟩:∃ x,wv.drew.setRow (w.heap.size+1) vl = x:=⟨_,rfl⟩
 obtain ⟨Kw701,Tw701_0,fw701⟩:=st_row ((But.refl (fun k => k = w.heap.size+1 ∨ k = w.heap.size+1+1) wv).drew) hw701 (fun _ => .inl rfl) (show wv.drew.heap[(w.heap.size+1)]? = _ from RA.out)
 have Kw701:=hid Kw701
 have Tw701_0:=hid Tw701_0
 have Tw701_1:=hid (fw701 _ _ (by omega) (show wv.drew.heap[(w.heap.size+1+1)]? = _ from RB.out))
 clear fw701
 rw [hw701]
 clear hw701
 refine hK2.out _ _ Kw701.out (fun hHeld2 => ?_)
 clear hK2 K2
 try simp only [pu]
 refine wpAnyH_ready (rs:=[3]) (by kernel_rfl) (by simp) ?_
 refine AllReadyH.cons (i:=3) rfl (fun K2 hK2 => ?_) AllReadyH.nil
 rw [if_pos (by rfl)]
 refine wp_store_row 39 _ _ rfl (w.heap.size+1+1) vl rfl rfl 39 _ Tw701_1.out Ivl.out (by rw [Zvl.out];rfl) Ovl.out ?_
 obtain ⟨w702,hw702⟩:∃ x,w701.setRow (w.heap.size+1+1) vl = x:=⟨_,rfl⟩
 obtain ⟨Kw702,Tw702_1,fw702⟩:=st_row Kw701.out hw702 (fun _ => .inr rfl) Tw701_1.out
 have Kw702:=hid Kw702
 have Tw702_1:=hid Tw702_1
 have Tw702_0:=hid (fw702 _ _ (by omega) Tw701_0.out)
 clear fw702
 rw [hw702]
 clear hw702
 refine hK2.out _ _ Kw702.out (fun hHeld2 => ?_)
 clear hK2 K2
 try simp only [pu]
 refine wpAnyH_done (by kernel_rfl) ?_ _
 go_wp2
 refine bodyPost_ret (v:=.tuple #[.agg vl,.agg vl]) (results_row_row rfl _ _ (w.heap.size+1) (w.heap.size+1+1) 39 39 vl vl (0,0) (0,0) _ _ rfl Tw702_0.out rfl Tw702_1.out Tryz.underlying39 rfl Ivl.out Tryz.underlying39 rfl Ivl.out) rfl ⟨rfl,HB.out.trans (But.to_below Kw702.out HB.out.size (fun k hk q => by omega))⟩
theorem sub18_first (old:Int) (b0:List UInt8) (hb0:b0.length = 32) (b e:Int) (n c:Nat) (A:Option Addr) (x:List UInt8) (w:World) (he:e = old) (h1:b < old) (hI:HIn w A n c [x]) :
 Calls Tryz.prog 82 #[.int .u64 (old - b),.int .u64 (e - b),.bool false,hv b0,.slice A n c] w fun ev w' => ev = .returned (.tuple #[hv x,hv x]) ∧ Below w.heap.size w w':=by
 subst he
 obtain ⟨vl,evl,Hvl,Zvl,Ivl,Ovl⟩:=row_of b0 hb0
 obtain ⟨wv,hwv⟩:∃ y,(((w.alloc (.cells vl 39)).alloc (.cells (List.replicate 32 (Value.int .u8 0)).toArray 39)).alloc (.cells (List.replicate 32 (Value.int .u8 0)).toArray 39)) = y:=⟨_,rfl⟩
 have HB:Hid (Below w.heap.size w wv):=hid (by rw [← hwv];exact ((((Below.refl _ _).alloc (by simp;try omega) _).alloc (by simp;try omega) _).alloc (by simp;try omega) _))
 have HSV:Hid (wv.heap.size = w.heap.size+1+1+1):=hid (by rw [← hwv];simp)
 have RL:Hid (wv.heap[w.heap.size]? = some (.cells vl 39 (0,0))):=hid (by rw [← hwv];simp only [World.alloc,Array.getElem?_push,Array.size_push];(repeat' split) <;> first | rfl | (exfalso;omega) | simp_all)
 have RA:Hid (wv.heap[(w.heap.size+1)]? = some (.cells (List.replicate 32 (Value.int .u8 0)).toArray 39 (0,0))):=hid (by rw [← hwv];simp only [World.alloc,Array.getElem?_push,Array.size_push];(repeat' split) <;> first | rfl | (exfalso;omega) | simp_all)
 have RB:Hid (wv.heap[(w.heap.size+1+1)]? = some (.cells (List.replicate 32 (Value.int .u8 0)).toArray 39 (0,0))):=hid (by rw [← hwv];simp only [World.alloc,Array.getElem?_push,Array.size_push];(repeat' split) <;> first | rfl | (exfalso;omega) | simp_all)
 have HWV:=hid hwv
 simp only [List.replicate,List.toArray] at HWV
 have t1:(e - b == e - b) = true:=by simp
 have hn1:n = 1:=hI.2.1.symm
 subst hn1
 obtain ⟨g,o,rfl,gl,rq,ql⟩:=hI.row (k:=0) (x:=x) rfl
 obtain ⟨vx,evx,Hvx,Zvx,Ivx,Ovx⟩:=row_of x ql
 obtain ⟨px,hpx⟩:∃ z,bytesV x = z:=⟨_,rfl⟩
 have HPV:Hid (px.toArray = vx):=hid (by rw [← hpx];exact Hvx.out)
 have HIX:Hid ((Tryz.prog.info? 39).map (·.size) = some px.length):=hid (by rw [← hpx,bytesV_length,ql];kernel_rfl)
 rw [Nat.zero_mul,Nat.add_zero] at rq
 have KX:Hid (∀ w',But (fun k => k = w.heap.size+1 ∨ k = w.heap.size+1+1) wv w' → w'.rangeAt g o px):=hid (fun w' h => by rw [← hpx];exact rangeAt_below (HB.out.trans (h.to_below HB.out.size (fun k hk q => by omega))) rq gl)
 rw [evx]
 clear evx hpx rq ql gl hI
 rw [evl]
 clear evl hwv h1
 obtain ⟨X,hX⟩:∃ X,e - b = X:=⟨_,rfl⟩
 rw [hX] at t1 ⊢
 clear hX
 go_enter Tryz.func82,Tryz.ntmps82
 go_upto_region 1 with fail
 rw [HWV.out]
 go_wp2_with fail
 refine wp_region_held_drew (S:=But (fun k => k = w.heap.size+1 ∨ k = w.heap.size+1+1) wv) (by kernel_rfl) (But.refl _ _).drew (fun hHeld => ?_)
 refine tk (i:=0) (v:=?v3) rfl ?y3 ?r3
 case y3 => (intro w hSw;(try dsimp only at hSw);go_simp;(try with_reducible rfl))
 try simp only [pu]
 refine tk (i:=1) (v:=?v4) rfl ?y4 ?r4
 case y4 => (intro w hSw;(try dsimp only at hSw);go_simp;(try with_reducible rfl))
 try simp only [pu]
 refine tw (i:=2) rfl (yieldsIf_load_mid (by rfl) 39 _ (by rfl) g o (by first | rfl | simp) px _ (fun w h => KX.out w h) Tryz.underlying39 (by rfl) HIX.out) ?_
 try simp only [pu]
 refine tk (i:=3) (v:=?v6) rfl ?y6 ?r6
 case y6 => (intro w hSw;(try dsimp only at hSw);go_simp;(try with_reducible rfl))
 try simp only [pu]
 refine tk (i:=4) (v:=?v7) rfl ?y7 ?r7
 case y7 => (intro w hSw;(try dsimp only at hSw);go_simp;(try with_reducible rfl))
 try simp only [pu]
 refine tw (i:=5) rfl (yieldsIf_load_mid (by rfl) 39 _ (by rfl) g o (by first | rfl | simp) px _ (fun w h => KX.out w h) Tryz.underlying39 (by rfl) HIX.out) ?_
 try simp only [pu]
 refine wpAnyH_ready (rs:=[6]) (by kernel_rfl) (by simp) ?_
 refine AllReadyH.cons (i:=6) rfl (fun K2 hK2 => ?_) AllReadyH.nil
 rw [if_pos (by rfl)]
 refine wp_store_row 39 _ _ rfl (w.heap.size+1) vx rfl (by rw [← HPV.out];rfl) 39 _ (show wv.drew.heap[(w.heap.size+1)]? = _ from RA.out) Ivx.out (by rw [Zvx.out];rfl) Ovx.out ?_
 obtain ⟨w703,hw703⟩:∃ x,wv.drew.setRow (w.heap.size+1) vx = x:=⟨_,rfl⟩
 obtain ⟨Kw703,Tw703_0,fw703⟩:=st_row ((But.refl (fun k => k = w.heap.size+1 ∨ k = w.heap.size+1+1) wv).drew) hw703 (fun _ => .inl rfl) (show wv.drew.heap[(w.heap.size+1)]? = _ from RA.out)
 have Kw703:=hid Kw703
 have Tw703_0:=hid Tw703_0
 have Tw703_1:=hid (fw703 _ _ (by omega) (show wv.drew.heap[(w.heap.size+1+1)]? = _ from RB.out))
 clear fw703
 rw [hw703]
 clear hw703
 refine hK2.out _ _ Kw703.out (fun hHeld2 => ?_)
 clear hK2 K2
 try simp only [pu]
 refine wpAnyH_ready (rs:=[7]) (by kernel_rfl) (by simp) ?_
 refine AllReadyH.cons (i:=7) rfl (fun K2 hK2 => ?_) AllReadyH.nil
 rw [if_pos (by rfl)]
 refine wp_store_row 39 _ _ rfl (w.heap.size+1+1) vx rfl (by rw [← HPV.out];rfl) 39 _ Tw703_1.out Ivx.out (by rw [Zvx.out];rfl) Ovx.out ?_
 obtain ⟨w704,hw704⟩:∃ x,w703.setRow (w.heap.size+1+1) vx = x:=⟨_,rfl⟩
 obtain ⟨Kw704,Tw704_1,fw704⟩:=st_row Kw703.out hw704 (fun _ => .inr rfl) Tw703_1.out
 have Kw704:=hid Kw704
 have Tw704_1:=hid Tw704_1
 have Tw704_0:=hid (fw704 _ _ (by omega) Tw703_0.out)
 clear fw704
 rw [hw704]
 clear hw704
 refine hK2.out _ _ Kw704.out (fun hHeld2 => ?_)
 clear hK2 K2
 try simp only [pu]
 refine wpAnyH_done (by kernel_rfl) ?_ _
 go_wp2
 refine bodyPost_ret (v:=.tuple #[.agg vx,.agg vx]) (results_row_row rfl _ _ (w.heap.size+1) (w.heap.size+1+1) 39 39 vx vx (0,0) (0,0) _ _ rfl Tw704_0.out rfl Tw704_1.out Tryz.underlying39 rfl Ivx.out Tryz.underlying39 rfl Ivx.out) rfl ⟨rfl,HB.out.trans (But.to_below Kw704.out HB.out.size (fun k hk q => by omega))⟩
theorem sub18_left (old:Int) (b0:List UInt8) (hb0:b0.length = 32) (X Y k:Int) (fl:Bool) (m c g o:Nat) (q x1 x2:List UInt8) (w:World) (hX:0 < X) (hXY:X < Y) (hY:Y ≤ 9223372036854775808) (hk:blwI Y = k) (hkb:1 ≤ k ∧ k < Y) (hlt:X ≤ k) (hm:m ≤ 64) (hmc:m < c)
 (hr:w.rangeAt g (o+m * 32) (bytesV q)) (hg:g < w.heap.size) (ql:q.length = 32) (l1:x1.length = 32) (l2:x2.length = 32)
 (hsub:∀ w',Below w.heap.size w w' → Calls Tryz.prog 82 #[.int .u64 X,.int .u64 k,.bool fl,hv b0,.slice (some ⟨g,o,none⟩) m c] w' fun ev w2 => ev = .returned (.tuple #[hv x1,hv x2]) ∧ Below w'.heap.size w' w2) :
 Calls Tryz.prog 82 #[.int .u64 X,.int .u64 Y,.bool fl,hv b0,.slice (some ⟨g,o,none⟩) (m+1) c] w fun ev w' => ev = .returned (.tuple #[hv (x1),hv (nodeH x2 q)]) ∧ Below w.heap.size w w':=by
 obtain ⟨vl,evl,Hvl,Zvl,Ivl,Ovl⟩:=row_of b0 hb0
 obtain ⟨wv,hwv⟩:∃ y,(((w.alloc (.cells vl 39)).alloc (.cells (List.replicate 32 (Value.int .u8 0)).toArray 39)).alloc (.cells (List.replicate 32 (Value.int .u8 0)).toArray 39)) = y:=⟨_,rfl⟩
 have HB:Hid (Below w.heap.size w wv):=hid (by rw [← hwv];exact ((((Below.refl _ _).alloc (by simp;try omega) _).alloc (by simp;try omega) _).alloc (by simp;try omega) _))
 have HSV:Hid (wv.heap.size = w.heap.size+1+1+1):=hid (by rw [← hwv];simp)
 have RL:Hid (wv.heap[w.heap.size]? = some (.cells vl 39 (0,0))):=hid (by rw [← hwv];simp only [World.alloc,Array.getElem?_push,Array.size_push];(repeat' split) <;> first | rfl | (exfalso;omega) | simp_all)
 have RA:Hid (wv.heap[(w.heap.size+1)]? = some (.cells (List.replicate 32 (Value.int .u8 0)).toArray 39 (0,0))):=hid (by rw [← hwv];simp only [World.alloc,Array.getElem?_push,Array.size_push];(repeat' split) <;> first | rfl | (exfalso;omega) | simp_all)
 have RB:Hid (wv.heap[(w.heap.size+1+1)]? = some (.cells (List.replicate 32 (Value.int .u8 0)).toArray 39 (0,0))):=hid (by rw [← hwv];simp only [World.alloc,Array.getElem?_push,Array.size_push];(repeat' split) <;> first | rfl | (exfalso;omega) | simp_all)
 have HWV:=hid hwv
 simp only [List.replicate,List.toArray] at HWV
 have HHALF:=hid (fun w' => half18 Y w' (by omega) hY)
 rw [hk] at HHALF
 obtain ⟨va,eva,Hva,Zva,Iva,Ova⟩:=row_of x1 l1
 obtain ⟨vb,evb,Hvb,Zvb,Ivb,Ovb⟩:=row_of x2 l2
 obtain ⟨vq,evq,Hvq,Zvq,Ivq,Ovq⟩:=row_of q ql
 obtain ⟨pq,hpq⟩:∃ z,bytesV q = z:=⟨_,rfl⟩
 have HPV:Hid (pq.toArray = vq):=hid (by rw [← hpq];exact Hvq.out)
 have HIQ:Hid ((Tryz.prog.info? 39).map (·.size) = some pq.length):=hid (by rw [← hpq,bytesV_length,ql];kernel_rfl)
 have KQ:Hid (∀ w',But (fun k => k = w.heap.size+1 ∨ k = w.heap.size+1+1) wv w' → w'.rangeAt g (o+m * 32) pq):=hid (fun w' h => by rw [← hpq];exact rangeAt_below (HB.out.trans (h.to_below HB.out.size (fun k hk q => by omega))) hr hg)
 have HSUB:Hid (∀ w',But (fun k => k = w.heap.size+1 ∨ k = w.heap.size+1+1) wv w' → Calls Tryz.prog 82 #[.int .u64 X,.int .u64 k,.bool fl,.agg vl,.slice (some ⟨g,o,none⟩) m c] w' fun ev w2 => ev = .returned (.tuple #[.agg va,.agg vb]) ∧ Below w'.heap.size w' w2):=hid (fun w' h => by
  have:=hsub w' (HB.out.trans (h.to_below HB.out.size (fun k hk q => by omega)))
  rw [evl,eva,evb] at this;exact this)
 obtain ⟨vy,evy,Hvy,Zvy,Ivy,Ovy⟩:=row_of (nodeH x2 q) (nodeH_length _ _)
 have HND:Hid (∀ w',Calls Tryz.prog 85 #[.agg vb,.agg pq.toArray] w' fun ev w2 => ev = .returned (.agg vy) ∧ Below w'.heap.size w' w2):=hid (fun w' => by
  have:=refnode_any x2 q w' l2 ql
  rw [evb,evq,evy] at this
  rw [HPV.out];exact this)
 rw [evl,eva,evy]
 obtain ⟨n,hn⟩:∃ n,m+1 = n:=⟨_,rfl⟩
 rw [hn]
 have t1:(X == Y) = false:=by simp;omega
 have k1:(m:Int) ≤ c:=by omega
 have k2:(m:Int) < n:=by omega
 have k3:(0:Int) ≤ m:=by omega
 have k4:IntKind.i64.wrap ((n:Int) - 1) = m:=by rw [IntWalk.i64_in _ (by omega)];omega
 have k5:(n:Int) - 1 = m:=by omega
 have k6:m ≤ c:=by omega
 have k7:m < n:=by omega
 have k11:(m:Int) ≤ 64:=by omega
 clear evl eva evb evq evy hpq hr hsub hwv hn ql l1 l2 hg hmc hk
 go_enter Tryz.func82,Tryz.ntmps82
 go_upto_region 1 with fail
 rw [HWV.out]
 go_wp2_with fail
 refine (HHALF.out wv).mono ?_
 rintro ev w0 ⟨rfl,rfl⟩
 go_upto_region 8 with fail
 go_cut [14,15] (fun s1 s2 w8 => ∃ g1 g2:Nat,s1 = .pointer (some ⟨g1,0,none⟩) ∧ s2 = .pointer (some ⟨g2,0,none⟩) ∧ Hid (wv.heap.size ≤ g1 ∧ wv.heap.size ≤ g2 ∧ But (fun k => k = w.heap.size+1 ∨ k = w.heap.size+1+1) wv w8 ∧ w8.heap[g1]? = some (.cells va 39 (0,0)) ∧ w8.heap[g2]? = some (.cells vb 39 (0,0)) ∧ w8.heap[(w.heap.size+1)]? = some (.cells (List.replicate 32 (Value.int .u8 0)).toArray 39 (0,0)) ∧ w8.heap[(w.heap.size+1+1)]? = some (.cells (List.replicate 32 (Value.int .u8 0)).toArray 39 (0,0))))
 case first =>
  refine wp_region_held_drew (S:=But (fun k => k = w.heap.size+1 ∨ k = w.heap.size+1+1) wv) (by kernel_rfl) (But.refl _ _).drew (fun hHeld => ?_)
  refine tk (i:=0) (v:=?v9) rfl ?y9 ?r9
  case y9 => (intro w hSw;(try dsimp only at hSw);go_simp;(try with_reducible rfl))
  try simp only [pu]
  refine tk (i:=1) (v:=?v10) rfl ?y10 ?r10
  case y10 => (intro w hSw;(try dsimp only at hSw);go_simp;(try with_reducible rfl))
  try simp only [pu]
  refine tk (i:=2) (v:=?v11) rfl ?y11 ?r11
  case y11 => (intro w hSw;(try dsimp only at hSw);go_simp;(try with_reducible rfl))
  try simp only [pu]
  refine tw (i:=3) rfl (yieldsIf_load_row (by rfl) 39 _ (by rfl) w.heap.size (by rfl) 39 vl (0,0) _ (fun w h => (But.same h _ (by have:=HSV.out;omega) (by omega)).trans RL.out) Tryz.underlying39 rfl Ivl.out) ?_
  try simp only [pu]
  refine tk (i:=4) (v:=?v13) rfl ?y13 ?r13
  case y13 => (intro w hSw;(try dsimp only at hSw);go_simp;(try with_reducible rfl))
  try simp only [pu]
  refine tk (i:=5) (v:=?v14) rfl ?y14 ?r14
  case y14 => (intro w hSw;(try dsimp only at hSw);go_simp;(try with_reducible rfl))
  try simp only [pu]
  refine tk (i:=6) (v:=?v15) rfl ?y15 ?r15
  case y15 => (intro w hSw;(try dsimp only at hSw);go_simp;(try with_reducible rfl))
  try simp only [pu]
  refine wpAnyH_ready (rs:=[7,11,12]) (by kernel_rfl) (by simp) ?_
  refine AllReadyH.cons (i:=7) rfl (fun K2 hK2 => ?_) ?more16
  ·skip
   go_simp
   go_at_call 82
   refine (HSUB.out wv.drew ((But.refl (fun k => k = w.heap.size+1 ∨ k = w.heap.size+1+1) wv).drew)).mono ?_
   rintro ev w705 ⟨rfl,bw705⟩
   try go_wp2_with fail
   obtain ⟨Kw705,fw705⟩:=st_call ((But.refl (fun k => k = w.heap.size+1 ∨ k = w.heap.size+1+1) wv).drew) bw705
   have Kw705:=hid Kw705
   have Tw705_0:=hid (fw705 _ _ (show wv.drew.heap[(w.heap.size+1)]? = _ from RA.out))
   have Tw705_1:=hid (fw705 _ _ (show wv.drew.heap[(w.heap.size+1+1)]? = _ from RB.out))
   clear bw705 fw705
   refine hK2.out _ _ Kw705.out (fun hHeld2 => ?_)
   clear hK2 K2
   try simp only [pu]
   refine tk (i:=8) (v:=?v17) rfl ?y17 ?r17
   case y17 => (intro w hSw;(try dsimp only at hSw);go_simp;(try with_reducible rfl))
   try simp only [pu]
   refine tk (i:=9) (v:=?v18) rfl ?y18 ?r18
   case y18 => (intro w hSw;(try dsimp only at hSw);go_simp;(try with_reducible rfl))
   try simp only [pu]
   refine tk (i:=10) (v:=?v19) rfl ?y19 ?r19
   case y19 => (intro w hSw;(try dsimp only at hSw);go_simp;(try with_reducible rfl))
   try simp only [pu]
   refine wpAnyH_ready (rs:=[11,12]) (by kernel_rfl) (by simp) ?_
   refine AllReadyH.cons (i:=11) rfl (fun K2 hK2 => ?_) ?more20
   ·skip
    go_simp
    obtain ⟨w706,hw706⟩:∃ x,(w705.alloc (.cells (List.replicate 32 (Value.int .u8 0)).toArray 39)) = x:=⟨_,rfl⟩
    obtain ⟨g706,hg706⟩:∃ x,w705.heap.size = x:=⟨_,rfl⟩
    obtain ⟨Kw706,Tw706_2,qw706,fw706⟩:=st_alloc Kw705.out hw706 hg706
    simp only [List.replicate] at hw706;rw [hw706,hg706];clear hw706 hg706
    have Kw706:=hid Kw706
    have Tw706_2:=hid Tw706_2
    obtain ⟨Tw706_0,dw706_0⟩:=fw706 _ _ Tw705_0.out
    have Tw706_0:=hid Tw706_0
    obtain ⟨Tw706_1,dw706_1⟩:=fw706 _ _ Tw705_1.out
    have Tw706_1:=hid Tw706_1
    clear fw706
    refine hK2.out _ _ Kw706.out (fun hHeld2 => ?_)
    clear hK2 K2
    try simp only [pu]
    refine wpAnyH_ready (rs:=[12]) (by kernel_rfl) (by simp) ?_
    refine AllReadyH.cons (i:=12) rfl (fun K2 hK2 => ?_) AllReadyH.nil
    go_simp
    obtain ⟨w707,hw707⟩:∃ x,(w706.alloc (.cells (List.replicate 32 (Value.int .u8 0)).toArray 39)) = x:=⟨_,rfl⟩
    obtain ⟨g707,hg707⟩:∃ x,w706.heap.size = x:=⟨_,rfl⟩
    obtain ⟨Kw707,Tw707_3,qw707,fw707⟩:=st_alloc Kw706.out hw707 hg707
    simp only [List.replicate] at hw707;rw [hw707,hg707];clear hw707 hg707
    have Kw707:=hid Kw707
    have Tw707_3:=hid Tw707_3
    obtain ⟨Tw707_0,dw707_0⟩:=fw707 _ _ Tw706_0.out
    have Tw707_0:=hid Tw707_0
    obtain ⟨Tw707_1,dw707_1⟩:=fw707 _ _ Tw706_1.out
    have Tw707_1:=hid Tw707_1
    obtain ⟨Tw707_2,dw707_2⟩:=fw707 _ _ Tw706_2.out
    have Tw707_2:=hid Tw707_2
    clear fw707
    refine hK2.out _ _ Kw707.out (fun hHeld2 => ?_)
    clear hK2 K2
    try simp only [pu]
    refine wpAnyH_ready (rs:=[13]) (by kernel_rfl) (by simp) ?_
    refine AllReadyH.cons (i:=13) rfl (fun K2 hK2 => ?_) AllReadyH.nil
    rw [if_pos (by rfl)]
    refine wp_store_row 39 _ _ rfl g706 va rfl rfl 39 _ Tw707_2.out Iva.out (by rw [Zva.out];rfl) Ova.out ?_
    obtain ⟨w708,hw708⟩:∃ x,w707.setRow g706 va = x:=⟨_,rfl⟩
    obtain ⟨Kw708,Tw708_2,fw708⟩:=st_row Kw707.out hw708 (fun h => absurd h (by omega)) Tw707_2.out
    have Kw708:=hid Kw708
    have Tw708_2:=hid Tw708_2
    have Tw708_0:=hid (fw708 _ _ (by omega) Tw707_0.out)
    have Tw708_1:=hid (fw708 _ _ (by omega) Tw707_1.out)
    have Tw708_3:=hid (fw708 _ _ (by omega) Tw707_3.out)
    clear fw708
    rw [hw708]
    clear hw708
    refine hK2.out _ _ Kw708.out (fun hHeld2 => ?_)
    clear hK2 K2
    try simp only [pu]
    refine wpAnyH_ready (rs:=[14]) (by kernel_rfl) (by simp) ?_
    refine AllReadyH.cons (i:=14) rfl (fun K2 hK2 => ?_) AllReadyH.nil
    rw [if_pos (by rfl)]
    refine wp_store_row 39 _ _ rfl g707 vb rfl rfl 39 _ Tw708_3.out Ivb.out (by rw [Zvb.out];rfl) Ovb.out ?_
    obtain ⟨w709,hw709⟩:∃ x,w708.setRow g707 vb = x:=⟨_,rfl⟩
    obtain ⟨Kw709,Tw709_3,fw709⟩:=st_row Kw708.out hw709 (fun h => absurd h (by omega)) Tw708_3.out
    have Kw709:=hid Kw709
    have Tw709_3:=hid Tw709_3
    have Tw709_0:=hid (fw709 _ _ (by omega) Tw708_0.out)
    have Tw709_1:=hid (fw709 _ _ (by omega) Tw708_1.out)
    have Tw709_2:=hid (fw709 _ _ (by omega) Tw708_2.out)
    clear fw709
    rw [hw709]
    clear hw709
    refine hK2.out _ _ Kw709.out (fun hHeld2 => ?_)
    clear hK2 K2
    try simp only [pu]
    refine wpAnyH_done (by kernel_rfl) ?_ _
    go_wp2_with fail
    go_meet
    exact ⟨_,_,rfl,rfl,hid ⟨qw706,qw707,Kw709.out,Tw709_2.out,Tw709_3.out,Tw709_0.out,Tw709_1.out⟩⟩
   refine AllReadyH.cons (i:=12) rfl (fun K2 hK2 => ?_) ?more21
   ·skip
    go_simp
    obtain ⟨w710,hw710⟩:∃ x,(w705.alloc (.cells (List.replicate 32 (Value.int .u8 0)).toArray 39)) = x:=⟨_,rfl⟩
    obtain ⟨g710,hg710⟩:∃ x,w705.heap.size = x:=⟨_,rfl⟩
    obtain ⟨Kw710,Tw710_2,qw710,fw710⟩:=st_alloc Kw705.out hw710 hg710
    simp only [List.replicate] at hw710;rw [hw710,hg710];clear hw710 hg710
    have Kw710:=hid Kw710
    have Tw710_2:=hid Tw710_2
    obtain ⟨Tw710_0,dw710_0⟩:=fw710 _ _ Tw705_0.out
    have Tw710_0:=hid Tw710_0
    obtain ⟨Tw710_1,dw710_1⟩:=fw710 _ _ Tw705_1.out
    have Tw710_1:=hid Tw710_1
    clear fw710
    refine hK2.out _ _ Kw710.out (fun hHeld2 => ?_)
    clear hK2 K2
    try simp only [pu]
    refine wpAnyH_ready (rs:=[11]) (by kernel_rfl) (by simp) ?_
    refine AllReadyH.cons (i:=11) rfl (fun K2 hK2 => ?_) AllReadyH.nil
    go_simp
    obtain ⟨w711,hw711⟩:∃ x,(w710.alloc (.cells (List.replicate 32 (Value.int .u8 0)).toArray 39)) = x:=⟨_,rfl⟩
    obtain ⟨g711,hg711⟩:∃ x,w710.heap.size = x:=⟨_,rfl⟩
    obtain ⟨Kw711,Tw711_3,qw711,fw711⟩:=st_alloc Kw710.out hw711 hg711
    simp only [List.replicate] at hw711;rw [hw711,hg711];clear hw711 hg711
    have Kw711:=hid Kw711
    have Tw711_3:=hid Tw711_3
    obtain ⟨Tw711_0,dw711_0⟩:=fw711 _ _ Tw710_0.out
    have Tw711_0:=hid Tw711_0
    obtain ⟨Tw711_1,dw711_1⟩:=fw711 _ _ Tw710_1.out
    have Tw711_1:=hid Tw711_1
    obtain ⟨Tw711_2,dw711_2⟩:=fw711 _ _ Tw710_2.out
    have Tw711_2:=hid Tw711_2
    clear fw711
    refine hK2.out _ _ Kw711.out (fun hHeld2 => ?_)
    clear hK2 K2
    try simp only [pu]
    refine wpAnyH_ready (rs:=[13]) (by kernel_rfl) (by simp) ?_
    refine AllReadyH.cons (i:=13) rfl (fun K2 hK2 => ?_) AllReadyH.nil
    rw [if_pos (by rfl)]
    refine wp_store_row 39 _ _ rfl g711 va rfl rfl 39 _ Tw711_3.out Iva.out (by rw [Zva.out];rfl) Ova.out ?_
    obtain ⟨w712,hw712⟩:∃ x,w711.setRow g711 va = x:=⟨_,rfl⟩
    obtain ⟨Kw712,Tw712_3,fw712⟩:=st_row Kw711.out hw712 (fun h => absurd h (by omega)) Tw711_3.out
    have Kw712:=hid Kw712
    have Tw712_3:=hid Tw712_3
    have Tw712_0:=hid (fw712 _ _ (by omega) Tw711_0.out)
    have Tw712_1:=hid (fw712 _ _ (by omega) Tw711_1.out)
    have Tw712_2:=hid (fw712 _ _ (by omega) Tw711_2.out)
    clear fw712
    rw [hw712]
    clear hw712
    refine hK2.out _ _ Kw712.out (fun hHeld2 => ?_)
    clear hK2 K2
    try simp only [pu]
    refine wpAnyH_ready (rs:=[14]) (by kernel_rfl) (by simp) ?_
    refine AllReadyH.cons (i:=14) rfl (fun K2 hK2 => ?_) AllReadyH.nil
    rw [if_pos (by rfl)]
    refine wp_store_row 39 _ _ rfl g710 vb rfl rfl 39 _ Tw712_2.out Ivb.out (by rw [Zvb.out];rfl) Ovb.out ?_
    obtain ⟨w713,hw713⟩:∃ x,w712.setRow g710 vb = x:=⟨_,rfl⟩
    obtain ⟨Kw713,Tw713_2,fw713⟩:=st_row Kw712.out hw713 (fun h => absurd h (by omega)) Tw712_2.out
    have Kw713:=hid Kw713
    have Tw713_2:=hid Tw713_2
    have Tw713_0:=hid (fw713 _ _ (by omega) Tw712_0.out)
    have Tw713_1:=hid (fw713 _ _ (by omega) Tw712_1.out)
    have Tw713_3:=hid (fw713 _ _ (by omega) Tw712_3.out)
    clear fw713
    rw [hw713]
    clear hw713
    refine hK2.out _ _ Kw713.out (fun hHeld2 => ?_)
    clear hK2 K2
    try simp only [pu]
    refine wpAnyH_done (by kernel_rfl) ?_ _
    go_wp2_with fail
    go_meet
    exact ⟨_,_,rfl,rfl,hid ⟨qw711,qw710,Kw713.out,Tw713_3.out,Tw713_2.out,Tw713_0.out,Tw713_1.out⟩⟩
   exact AllReadyH.nil
  refine AllReadyH.cons (i:=11) rfl (fun K2 hK2 => ?_) ?more22
  ·skip
   go_simp
   obtain ⟨w714,hw714⟩:∃ x,(wv.alloc (.cells (List.replicate 32 (Value.int .u8 0)).toArray 39)).drew = x:=⟨_,rfl⟩
   obtain ⟨g714,hg714⟩:∃ x,wv.heap.size = x:=⟨_,rfl⟩
   obtain ⟨Kw714,Tw714_2,qw714,fw714⟩:=st_alloc ((But.refl (fun k => k = w.heap.size+1 ∨ k = w.heap.size+1+1) wv).drew) hw714 hg714
   simp only [List.replicate] at hw714;rw [hw714,hg714];clear hw714 hg714
   have Kw714:=hid Kw714
   have Tw714_2:=hid Tw714_2
   obtain ⟨Tw714_0,dw714_0⟩:=fw714 _ _ (show wv.drew.heap[(w.heap.size+1)]? = _ from RA.out)
   have Tw714_0:=hid Tw714_0
   obtain ⟨Tw714_1,dw714_1⟩:=fw714 _ _ (show wv.drew.heap[(w.heap.size+1+1)]? = _ from RB.out)
   have Tw714_1:=hid Tw714_1
   clear fw714
   refine hK2.out _ _ Kw714.out (fun hHeld2 => ?_)
   clear hK2 K2
   try simp only [pu]
   refine wpAnyH_ready (rs:=[7,12]) (by kernel_rfl) (by simp) ?_
   refine AllReadyH.cons (i:=7) rfl (fun K2 hK2 => ?_) ?more23
   ·skip
    go_simp
    go_at_call 82
    refine (HSUB.out w714 Kw714.out).mono ?_
    rintro ev w715 ⟨rfl,bw715⟩
    try go_wp2_with fail
    obtain ⟨Kw715,fw715⟩:=st_call Kw714.out bw715
    have Kw715:=hid Kw715
    have Tw715_0:=hid (fw715 _ _ Tw714_0.out)
    have Tw715_1:=hid (fw715 _ _ Tw714_1.out)
    have Tw715_2:=hid (fw715 _ _ Tw714_2.out)
    clear bw715 fw715
    refine hK2.out _ _ Kw715.out (fun hHeld2 => ?_)
    clear hK2 K2
    try simp only [pu]
    refine tk (i:=8) (v:=?v24) rfl ?y24 ?r24
    case y24 => (intro w hSw;(try dsimp only at hSw);go_simp;(try with_reducible rfl))
    try simp only [pu]
    refine tk (i:=9) (v:=?v25) rfl ?y25 ?r25
    case y25 => (intro w hSw;(try dsimp only at hSw);go_simp;(try with_reducible rfl))
    try simp only [pu]
    refine tk (i:=10) (v:=?v26) rfl ?y26 ?r26
    case y26 => (intro w hSw;(try dsimp only at hSw);go_simp;(try with_reducible rfl))
    try simp only [pu]
    refine wpAnyH_ready (rs:=[12]) (by kernel_rfl) (by simp) ?_
    refine AllReadyH.cons (i:=12) rfl (fun K2 hK2 => ?_) AllReadyH.nil
    go_simp
    obtain ⟨w716,hw716⟩:∃ x,(w715.alloc (.cells (List.replicate 32 (Value.int .u8 0)).toArray 39)) = x:=⟨_,rfl⟩
    obtain ⟨g716,hg716⟩:∃ x,w715.heap.size = x:=⟨_,rfl⟩
    obtain ⟨Kw716,Tw716_3,qw716,fw716⟩:=st_alloc Kw715.out hw716 hg716
    simp only [List.replicate] at hw716;rw [hw716,hg716];clear hw716 hg716
    have Kw716:=hid Kw716
    have Tw716_3:=hid Tw716_3
    obtain ⟨Tw716_0,dw716_0⟩:=fw716 _ _ Tw715_0.out
    have Tw716_0:=hid Tw716_0
    obtain ⟨Tw716_1,dw716_1⟩:=fw716 _ _ Tw715_1.out
    have Tw716_1:=hid Tw716_1
    obtain ⟨Tw716_2,dw716_2⟩:=fw716 _ _ Tw715_2.out
    have Tw716_2:=hid Tw716_2
    clear fw716
    refine hK2.out _ _ Kw716.out (fun hHeld2 => ?_)
    clear hK2 K2
    try simp only [pu]
    refine wpAnyH_ready (rs:=[13]) (by kernel_rfl) (by simp) ?_
    refine AllReadyH.cons (i:=13) rfl (fun K2 hK2 => ?_) AllReadyH.nil
    rw [if_pos (by rfl)]
    refine wp_store_row 39 _ _ rfl g714 va rfl rfl 39 _ Tw716_2.out Iva.out (by rw [Zva.out];rfl) Ova.out ?_
    obtain ⟨w717,hw717⟩:∃ x,w716.setRow g714 va = x:=⟨_,rfl⟩
    obtain ⟨Kw717,Tw717_2,fw717⟩:=st_row Kw716.out hw717 (fun h => absurd h (by omega)) Tw716_2.out
    have Kw717:=hid Kw717
    have Tw717_2:=hid Tw717_2
    have Tw717_0:=hid (fw717 _ _ (by omega) Tw716_0.out)
    have Tw717_1:=hid (fw717 _ _ (by omega) Tw716_1.out)
    have Tw717_3:=hid (fw717 _ _ (by omega) Tw716_3.out)
    clear fw717
    rw [hw717]
    clear hw717
    refine hK2.out _ _ Kw717.out (fun hHeld2 => ?_)
    clear hK2 K2
    try simp only [pu]
    refine wpAnyH_ready (rs:=[14]) (by kernel_rfl) (by simp) ?_
    refine AllReadyH.cons (i:=14) rfl (fun K2 hK2 => ?_) AllReadyH.nil
    rw [if_pos (by rfl)]
    refine wp_store_row 39 _ _ rfl g716 vb rfl rfl 39 _ Tw717_3.out Ivb.out (by rw [Zvb.out];rfl) Ovb.out ?_
    obtain ⟨w718,hw718⟩:∃ x,w717.setRow g716 vb = x:=⟨_,rfl⟩
    obtain ⟨Kw718,Tw718_3,fw718⟩:=st_row Kw717.out hw718 (fun h => absurd h (by omega)) Tw717_3.out
    have Kw718:=hid Kw718
    have Tw718_3:=hid Tw718_3
    have Tw718_0:=hid (fw718 _ _ (by omega) Tw717_0.out)
    have Tw718_1:=hid (fw718 _ _ (by omega) Tw717_1.out)
    have Tw718_2:=hid (fw718 _ _ (by omega) Tw717_2.out)
    clear fw718
    rw [hw718]
    clear hw718
    refine hK2.out _ _ Kw718.out (fun hHeld2 => ?_)
    clear hK2 K2
    try simp only [pu]
    refine wpAnyH_done (by kernel_rfl) ?_ _
    go_wp2_with fail
    go_meet
    exact ⟨_,_,rfl,rfl,hid ⟨qw714,qw716,Kw718.out,Tw718_2.out,Tw718_3.out,Tw718_0.out,Tw718_1.out⟩⟩
   refine AllReadyH.cons (i:=12) rfl (fun K2 hK2 => ?_) ?more27
   ·skip
    go_simp
    obtain ⟨w719,hw719⟩:∃ x,(w714.alloc (.cells (List.replicate 32 (Value.int .u8 0)).toArray 39)) = x:=⟨_,rfl⟩
    obtain ⟨g719,hg719⟩:∃ x,w714.heap.size = x:=⟨_,rfl⟩
    obtain ⟨Kw719,Tw719_3,qw719,fw719⟩:=st_alloc Kw714.out hw719 hg719
    simp only [List.replicate] at hw719;rw [hw719,hg719];clear hw719 hg719
    have Kw719:=hid Kw719
    have Tw719_3:=hid Tw719_3
    obtain ⟨Tw719_0,dw719_0⟩:=fw719 _ _ Tw714_0.out
    have Tw719_0:=hid Tw719_0
    obtain ⟨Tw719_1,dw719_1⟩:=fw719 _ _ Tw714_1.out
    have Tw719_1:=hid Tw719_1
    obtain ⟨Tw719_2,dw719_2⟩:=fw719 _ _ Tw714_2.out
    have Tw719_2:=hid Tw719_2
    clear fw719
    refine hK2.out _ _ Kw719.out (fun hHeld2 => ?_)
    clear hK2 K2
    try simp only [pu]
    refine wpAnyH_ready (rs:=[7]) (by kernel_rfl) (by simp) ?_
    refine AllReadyH.cons (i:=7) rfl (fun K2 hK2 => ?_) AllReadyH.nil
    go_simp
    go_at_call 82
    refine (HSUB.out w719 Kw719.out).mono ?_
    rintro ev w720 ⟨rfl,bw720⟩
    try go_wp2_with fail
    obtain ⟨Kw720,fw720⟩:=st_call Kw719.out bw720
    have Kw720:=hid Kw720
    have Tw720_0:=hid (fw720 _ _ Tw719_0.out)
    have Tw720_1:=hid (fw720 _ _ Tw719_1.out)
    have Tw720_2:=hid (fw720 _ _ Tw719_2.out)
    have Tw720_3:=hid (fw720 _ _ Tw719_3.out)
    clear bw720 fw720
    refine hK2.out _ _ Kw720.out (fun hHeld2 => ?_)
    clear hK2 K2
    try simp only [pu]
    refine tk (i:=8) (v:=?v28) rfl ?y28 ?r28
    case y28 => (intro w hSw;(try dsimp only at hSw);go_simp;(try with_reducible rfl))
    try simp only [pu]
    refine tk (i:=9) (v:=?v29) rfl ?y29 ?r29
    case y29 => (intro w hSw;(try dsimp only at hSw);go_simp;(try with_reducible rfl))
    try simp only [pu]
    refine tk (i:=10) (v:=?v30) rfl ?y30 ?r30
    case y30 => (intro w hSw;(try dsimp only at hSw);go_simp;(try with_reducible rfl))
    try simp only [pu]
    refine wpAnyH_ready (rs:=[13]) (by kernel_rfl) (by simp) ?_
    refine AllReadyH.cons (i:=13) rfl (fun K2 hK2 => ?_) AllReadyH.nil
    rw [if_pos (by rfl)]
    refine wp_store_row 39 _ _ rfl g714 va rfl rfl 39 _ Tw720_2.out Iva.out (by rw [Zva.out];rfl) Ova.out ?_
    obtain ⟨w721,hw721⟩:∃ x,w720.setRow g714 va = x:=⟨_,rfl⟩
    obtain ⟨Kw721,Tw721_2,fw721⟩:=st_row Kw720.out hw721 (fun h => absurd h (by omega)) Tw720_2.out
    have Kw721:=hid Kw721
    have Tw721_2:=hid Tw721_2
    have Tw721_0:=hid (fw721 _ _ (by omega) Tw720_0.out)
    have Tw721_1:=hid (fw721 _ _ (by omega) Tw720_1.out)
    have Tw721_3:=hid (fw721 _ _ (by omega) Tw720_3.out)
    clear fw721
    rw [hw721]
    clear hw721
    refine hK2.out _ _ Kw721.out (fun hHeld2 => ?_)
    clear hK2 K2
    try simp only [pu]
    refine wpAnyH_ready (rs:=[14]) (by kernel_rfl) (by simp) ?_
    refine AllReadyH.cons (i:=14) rfl (fun K2 hK2 => ?_) AllReadyH.nil
    rw [if_pos (by rfl)]
    refine wp_store_row 39 _ _ rfl g719 vb rfl rfl 39 _ Tw721_3.out Ivb.out (by rw [Zvb.out];rfl) Ovb.out ?_
    obtain ⟨w722,hw722⟩:∃ x,w721.setRow g719 vb = x:=⟨_,rfl⟩
    obtain ⟨Kw722,Tw722_3,fw722⟩:=st_row Kw721.out hw722 (fun h => absurd h (by omega)) Tw721_3.out
    have Kw722:=hid Kw722
    have Tw722_3:=hid Tw722_3
    have Tw722_0:=hid (fw722 _ _ (by omega) Tw721_0.out)
    have Tw722_1:=hid (fw722 _ _ (by omega) Tw721_1.out)
    have Tw722_2:=hid (fw722 _ _ (by omega) Tw721_2.out)
    clear fw722
    rw [hw722]
    clear hw722
    refine hK2.out _ _ Kw722.out (fun hHeld2 => ?_)
    clear hK2 K2
    try simp only [pu]
    refine wpAnyH_done (by kernel_rfl) ?_ _
    go_wp2_with fail
    go_meet
    exact ⟨_,_,rfl,rfl,hid ⟨qw714,qw719,Kw722.out,Tw722_2.out,Tw722_3.out,Tw722_0.out,Tw722_1.out⟩⟩
   exact AllReadyH.nil
  refine AllReadyH.cons (i:=12) rfl (fun K2 hK2 => ?_) ?more31
  ·skip
   go_simp
   obtain ⟨w723,hw723⟩:∃ x,(wv.alloc (.cells (List.replicate 32 (Value.int .u8 0)).toArray 39)).drew = x:=⟨_,rfl⟩
   obtain ⟨g723,hg723⟩:∃ x,wv.heap.size = x:=⟨_,rfl⟩
   obtain ⟨Kw723,Tw723_2,qw723,fw723⟩:=st_alloc ((But.refl (fun k => k = w.heap.size+1 ∨ k = w.heap.size+1+1) wv).drew) hw723 hg723
   simp only [List.replicate] at hw723;rw [hw723,hg723];clear hw723 hg723
   have Kw723:=hid Kw723
   have Tw723_2:=hid Tw723_2
   obtain ⟨Tw723_0,dw723_0⟩:=fw723 _ _ (show wv.drew.heap[(w.heap.size+1)]? = _ from RA.out)
   have Tw723_0:=hid Tw723_0
   obtain ⟨Tw723_1,dw723_1⟩:=fw723 _ _ (show wv.drew.heap[(w.heap.size+1+1)]? = _ from RB.out)
   have Tw723_1:=hid Tw723_1
   clear fw723
   refine hK2.out _ _ Kw723.out (fun hHeld2 => ?_)
   clear hK2 K2
   try simp only [pu]
   refine wpAnyH_ready (rs:=[7,11]) (by kernel_rfl) (by simp) ?_
   refine AllReadyH.cons (i:=7) rfl (fun K2 hK2 => ?_) ?more32
   ·skip
    go_simp
    go_at_call 82
    refine (HSUB.out w723 Kw723.out).mono ?_
    rintro ev w724 ⟨rfl,bw724⟩
    try go_wp2_with fail
    obtain ⟨Kw724,fw724⟩:=st_call Kw723.out bw724
    have Kw724:=hid Kw724
    have Tw724_0:=hid (fw724 _ _ Tw723_0.out)
    have Tw724_1:=hid (fw724 _ _ Tw723_1.out)
    have Tw724_2:=hid (fw724 _ _ Tw723_2.out)
    clear bw724 fw724
    refine hK2.out _ _ Kw724.out (fun hHeld2 => ?_)
    clear hK2 K2
    try simp only [pu]
    refine tk (i:=8) (v:=?v33) rfl ?y33 ?r33
    case y33 => (intro w hSw;(try dsimp only at hSw);go_simp;(try with_reducible rfl))
    try simp only [pu]
    refine tk (i:=9) (v:=?v34) rfl ?y34 ?r34
    case y34 => (intro w hSw;(try dsimp only at hSw);go_simp;(try with_reducible rfl))
    try simp only [pu]
    refine tk (i:=10) (v:=?v35) rfl ?y35 ?r35
    case y35 => (intro w hSw;(try dsimp only at hSw);go_simp;(try with_reducible rfl))
    try simp only [pu]
    refine wpAnyH_ready (rs:=[11]) (by kernel_rfl) (by simp) ?_
    refine AllReadyH.cons (i:=11) rfl (fun K2 hK2 => ?_) AllReadyH.nil
    go_simp
    obtain ⟨w725,hw725⟩:∃ x,(w724.alloc (.cells (List.replicate 32 (Value.int .u8 0)).toArray 39)) = x:=⟨_,rfl⟩
    obtain ⟨g725,hg725⟩:∃ x,w724.heap.size = x:=⟨_,rfl⟩
    obtain ⟨Kw725,Tw725_3,qw725,fw725⟩:=st_alloc Kw724.out hw725 hg725
    simp only [List.replicate] at hw725;rw [hw725,hg725];clear hw725 hg725
    have Kw725:=hid Kw725
    have Tw725_3:=hid Tw725_3
    obtain ⟨Tw725_0,dw725_0⟩:=fw725 _ _ Tw724_0.out
    have Tw725_0:=hid Tw725_0
    obtain ⟨Tw725_1,dw725_1⟩:=fw725 _ _ Tw724_1.out
    have Tw725_1:=hid Tw725_1
    obtain ⟨Tw725_2,dw725_2⟩:=fw725 _ _ Tw724_2.out
    have Tw725_2:=hid Tw725_2
    clear fw725
    refine hK2.out _ _ Kw725.out (fun hHeld2 => ?_)
    clear hK2 K2
    try simp only [pu]
    refine wpAnyH_ready (rs:=[13]) (by kernel_rfl) (by simp) ?_
    refine AllReadyH.cons (i:=13) rfl (fun K2 hK2 => ?_) AllReadyH.nil
    rw [if_pos (by rfl)]
    refine wp_store_row 39 _ _ rfl g725 va rfl rfl 39 _ Tw725_3.out Iva.out (by rw [Zva.out];rfl) Ova.out ?_
    obtain ⟨w726,hw726⟩:∃ x,w725.setRow g725 va = x:=⟨_,rfl⟩
    obtain ⟨Kw726,Tw726_3,fw726⟩:=st_row Kw725.out hw726 (fun h => absurd h (by omega)) Tw725_3.out
    have Kw726:=hid Kw726
    have Tw726_3:=hid Tw726_3
    have Tw726_0:=hid (fw726 _ _ (by omega) Tw725_0.out)
    have Tw726_1:=hid (fw726 _ _ (by omega) Tw725_1.out)
    have Tw726_2:=hid (fw726 _ _ (by omega) Tw725_2.out)
    clear fw726
    rw [hw726]
    clear hw726
    refine hK2.out _ _ Kw726.out (fun hHeld2 => ?_)
    clear hK2 K2
    try simp only [pu]
    refine wpAnyH_ready (rs:=[14]) (by kernel_rfl) (by simp) ?_
    refine AllReadyH.cons (i:=14) rfl (fun K2 hK2 => ?_) AllReadyH.nil
    rw [if_pos (by rfl)]
    refine wp_store_row 39 _ _ rfl g723 vb rfl rfl 39 _ Tw726_2.out Ivb.out (by rw [Zvb.out];rfl) Ovb.out ?_
    obtain ⟨w727,hw727⟩:∃ x,w726.setRow g723 vb = x:=⟨_,rfl⟩
    obtain ⟨Kw727,Tw727_2,fw727⟩:=st_row Kw726.out hw727 (fun h => absurd h (by omega)) Tw726_2.out
    have Kw727:=hid Kw727
    have Tw727_2:=hid Tw727_2
    have Tw727_0:=hid (fw727 _ _ (by omega) Tw726_0.out)
    have Tw727_1:=hid (fw727 _ _ (by omega) Tw726_1.out)
    have Tw727_3:=hid (fw727 _ _ (by omega) Tw726_3.out)
    clear fw727
    rw [hw727]
    clear hw727
    refine hK2.out _ _ Kw727.out (fun hHeld2 => ?_)
    clear hK2 K2
    try simp only [pu]
    refine wpAnyH_done (by kernel_rfl) ?_ _
    go_wp2_with fail
    go_meet
    exact ⟨_,_,rfl,rfl,hid ⟨qw725,qw723,Kw727.out,Tw727_3.out,Tw727_2.out,Tw727_0.out,Tw727_1.out⟩⟩
   refine AllReadyH.cons (i:=11) rfl (fun K2 hK2 => ?_) ?more36
   ·skip
    go_simp
    obtain ⟨w728,hw728⟩:∃ x,(w723.alloc (.cells (List.replicate 32 (Value.int .u8 0)).toArray 39)) = x:=⟨_,rfl⟩
    obtain ⟨g728,hg728⟩:∃ x,w723.heap.size = x:=⟨_,rfl⟩
    obtain ⟨Kw728,Tw728_3,qw728,fw728⟩:=st_alloc Kw723.out hw728 hg728
    simp only [List.replicate] at hw728;rw [hw728,hg728];clear hw728 hg728
    have Kw728:=hid Kw728
    have Tw728_3:=hid Tw728_3
    obtain ⟨Tw728_0,dw728_0⟩:=fw728 _ _ Tw723_0.out
    have Tw728_0:=hid Tw728_0
    obtain ⟨Tw728_1,dw728_1⟩:=fw728 _ _ Tw723_1.out
    have Tw728_1:=hid Tw728_1
    obtain ⟨Tw728_2,dw728_2⟩:=fw728 _ _ Tw723_2.out
    have Tw728_2:=hid Tw728_2
    clear fw728
    refine hK2.out _ _ Kw728.out (fun hHeld2 => ?_)
    clear hK2 K2
    try simp only [pu]
    refine wpAnyH_ready (rs:=[7]) (by kernel_rfl) (by simp) ?_
    refine AllReadyH.cons (i:=7) rfl (fun K2 hK2 => ?_) AllReadyH.nil
    go_simp
    go_at_call 82
    refine (HSUB.out w728 Kw728.out).mono ?_
    rintro ev w729 ⟨rfl,bw729⟩
    try go_wp2_with fail
    obtain ⟨Kw729,fw729⟩:=st_call Kw728.out bw729
    have Kw729:=hid Kw729
    have Tw729_0:=hid (fw729 _ _ Tw728_0.out)
    have Tw729_1:=hid (fw729 _ _ Tw728_1.out)
    have Tw729_2:=hid (fw729 _ _ Tw728_2.out)
    have Tw729_3:=hid (fw729 _ _ Tw728_3.out)
    clear bw729 fw729
    refine hK2.out _ _ Kw729.out (fun hHeld2 => ?_)
    clear hK2 K2
    try simp only [pu]
    refine tk (i:=8) (v:=?v37) rfl ?y37 ?r37
    case y37 => (intro w hSw;(try dsimp only at hSw);go_simp;(try with_reducible rfl))
    try simp only [pu]
    refine tk (i:=9) (v:=?v38) rfl ?y38 ?r38
    case y38 => (intro w hSw;(try dsimp only at hSw);go_simp;(try with_reducible rfl))
    try simp only [pu]
    refine tk (i:=10) (v:=?v39) rfl ?y39 ?r39
    case y39 => (intro w hSw;(try dsimp only at hSw);go_simp;(try with_reducible rfl))
    try simp only [pu]
    refine wpAnyH_ready (rs:=[13]) (by kernel_rfl) (by simp) ?_
    refine AllReadyH.cons (i:=13) rfl (fun K2 hK2 => ?_) AllReadyH.nil
    rw [if_pos (by rfl)]
    refine wp_store_row 39 _ _ rfl g728 va rfl rfl 39 _ Tw729_3.out Iva.out (by rw [Zva.out];rfl) Ova.out ?_
    obtain ⟨w730,hw730⟩:∃ x,w729.setRow g728 va = x:=⟨_,rfl⟩
    obtain ⟨Kw730,Tw730_3,fw730⟩:=st_row Kw729.out hw730 (fun h => absurd h (by omega)) Tw729_3.out
    have Kw730:=hid Kw730
    have Tw730_3:=hid Tw730_3
    have Tw730_0:=hid (fw730 _ _ (by omega) Tw729_0.out)
    have Tw730_1:=hid (fw730 _ _ (by omega) Tw729_1.out)
    have Tw730_2:=hid (fw730 _ _ (by omega) Tw729_2.out)
    clear fw730
    rw [hw730]
    clear hw730
    refine hK2.out _ _ Kw730.out (fun hHeld2 => ?_)
    clear hK2 K2
    try simp only [pu]
    refine wpAnyH_ready (rs:=[14]) (by kernel_rfl) (by simp) ?_
    refine AllReadyH.cons (i:=14) rfl (fun K2 hK2 => ?_) AllReadyH.nil
    rw [if_pos (by rfl)]
    refine wp_store_row 39 _ _ rfl g723 vb rfl rfl 39 _ Tw730_2.out Ivb.out (by rw [Zvb.out];rfl) Ovb.out ?_
    obtain ⟨w731,hw731⟩:∃ x,w730.setRow g723 vb = x:=⟨_,rfl⟩
    obtain ⟨Kw731,Tw731_2,fw731⟩:=st_row Kw730.out hw731 (fun h => absurd h (by omega)) Tw730_2.out
    have Kw731:=hid Kw731
    have Tw731_2:=hid Tw731_2
    have Tw731_0:=hid (fw731 _ _ (by omega) Tw730_0.out)
    have Tw731_1:=hid (fw731 _ _ (by omega) Tw730_1.out)
    have Tw731_3:=hid (fw731 _ _ (by omega) Tw730_3.out)
    clear fw731
    rw [hw731]
    clear hw731
    refine hK2.out _ _ Kw731.out (fun hHeld2 => ?_)
    clear hK2 K2
    try simp only [pu]
    refine wpAnyH_done (by kernel_rfl) ?_ _
    go_wp2_with fail
    go_meet
    exact ⟨_,_,rfl,rfl,hid ⟨qw728,qw723,Kw731.out,Tw731_3.out,Tw731_2.out,Tw731_0.out,Tw731_1.out⟩⟩
   exact AllReadyH.nil
  exact AllReadyH.nil
 case rest =>
  obtain ⟨g1,g2,rfl,rfl,H8⟩:=hcut
  have C1:Hid (wc.heap[g1]? = some (.cells va 39 (0,0))):=hid H8.out.2.2.2.1
  have C2:Hid (wc.heap[g2]? = some (.cells vb 39 (0,0))):=hid H8.out.2.2.2.2.1
  have RAc:Hid (wc.heap[(w.heap.size+1)]? = some (.cells (List.replicate 32 (Value.int .u8 0)).toArray 39 (0,0))):=hid H8.out.2.2.2.2.2.1
  have RBc:Hid (wc.heap[(w.heap.size+1+1)]? = some (.cells (List.replicate 32 (Value.int .u8 0)).toArray 39 (0,0))):=hid H8.out.2.2.2.2.2.2
  have KC:Hid (But (fun k => k = w.heap.size+1 ∨ k = w.heap.size+1+1) wv wc):=hid H8.out.2.2.1
  have GG:Hid (w.heap.size+1+1 < g1 ∧ w.heap.size+1+1 < g2):=hid ⟨by have:=H8.out.1;have:=HSV.out;omega,by have:=H8.out.2.1;have:=HSV.out;omega⟩
  have KQc:Hid (∀ w',But (fun k => k = w.heap.size+1 ∨ k = w.heap.size+1+1) wc w' → w'.rangeAt g (o+m * 32) pq):=hid (fun w' h => KQ.out w' (KC.out.trans h))
  go_upto_region 9 with fail
  refine wp_region_held_drew (S:=But (fun k => k = w.heap.size+1 ∨ k = w.heap.size+1+1) wc) (by kernel_rfl) (But.refl _ _).drew (fun hHeld => ?_)
  refine tw (i:=0) rfl (yieldsIf_load_row (by rfl) 39 _ (by rfl) g1 (by rfl) 39 va (0,0) _ (fun w h => (But.same h _ (Array.getElem?_eq_some_iff.1 C1.out).1 (by have:=GG.out;omega)).trans C1.out) Tryz.underlying39 rfl Iva.out) ?_
  try simp only [pu]
  refine tw (i:=1) rfl (yieldsIf_load_row (by rfl) 39 _ (by rfl) g2 (by rfl) 39 vb (0,0) _ (fun w h => (But.same h _ (Array.getElem?_eq_some_iff.1 C2.out).1 (by have:=GG.out;omega)).trans C2.out) Tryz.underlying39 rfl Ivb.out) ?_
  try simp only [pu]
  refine tk (i:=2) (v:=?v42) rfl ?y42 ?r42
  case y42 => (intro w hSw;(try dsimp only at hSw);go_simp;(try with_reducible rfl))
  try simp only [pu]
  refine tk (i:=3) (v:=?v43) rfl ?y43 ?r43
  case y43 => (intro w hSw;(try dsimp only at hSw);go_simp;(try with_reducible rfl))
  try simp only [pu]
  refine tk (i:=4) (v:=?v44) rfl ?y44 ?r44
  case y44 => (intro w hSw;(try dsimp only at hSw);go_simp;(try with_reducible rfl))
  try simp only [pu]
  refine tw (i:=5) rfl (yieldsIf_load_mid (by rfl) 39 _ (by rfl) g (o+m * 32) (by first | rfl | simp) pq _ (fun w h => KQc.out w h) Tryz.underlying39 (by rfl) HIQ.out) ?_
  try simp only [pu]
  refine wpAnyH_ready (rs:=[6]) (by kernel_rfl) (by simp) ?_
  refine AllReadyH.cons (i:=6) rfl (fun K2 hK2 => ?_) AllReadyH.nil
  go_simp
  go_at_call 85
  refine (HND.out wc.drew).mono ?_
  rintro ev w732 ⟨rfl,bw732⟩
  try go_wp2_with fail
  obtain ⟨Kw732,fw732⟩:=st_call ((But.refl (fun k => k = w.heap.size+1 ∨ k = w.heap.size+1+1) wc).drew) bw732
  have Kw732:=hid Kw732
  have Tw732_0:=hid (fw732 _ _ (show wc.drew.heap[(w.heap.size+1)]? = _ from RAc.out))
  have Tw732_1:=hid (fw732 _ _ (show wc.drew.heap[(w.heap.size+1+1)]? = _ from RBc.out))
  clear bw732 fw732
  refine hK2.out _ _ Kw732.out (fun hHeld2 => ?_)
  clear hK2 K2
  try simp only [pu]
  refine wpAnyH_ready (rs:=[7]) (by kernel_rfl) (by simp) ?_
  refine AllReadyH.cons (i:=7) rfl (fun K2 hK2 => ?_) AllReadyH.nil
  rw [if_pos (by rfl)]
  refine wp_store_row 39 _ _ rfl (w.heap.size+1) va rfl rfl 39 _ Tw732_0.out Iva.out (by rw [Zva.out];rfl) Ova.out ?_
  obtain ⟨w733,hw733⟩:∃ x,w732.setRow (w.heap.size+1) va = x:=⟨_,rfl⟩
  obtain ⟨Kw733,Tw733_0,fw733⟩:=st_row Kw732.out hw733 (fun _ => .inl rfl) Tw732_0.out
  have Kw733:=hid Kw733
  have Tw733_0:=hid Tw733_0
  have Tw733_1:=hid (fw733 _ _ (by omega) Tw732_1.out)
  clear fw733
  rw [hw733]
  clear hw733
  refine hK2.out _ _ Kw733.out (fun hHeld2 => ?_)
  clear hK2 K2
  try simp only [pu]
  refine wpAnyH_ready (rs:=[8]) (by kernel_rfl) (by simp) ?_
  refine AllReadyH.cons (i:=8) rfl (fun K2 hK2 => ?_) AllReadyH.nil
  rw [if_pos (by rfl)]
  refine wp_store_row 39 _ _ rfl (w.heap.size+1+1) vy rfl rfl 39 _ Tw733_1.out Ivy.out (by rw [Zvy.out];rfl) Ovy.out ?_
  obtain ⟨w734,hw734⟩:∃ x,w733.setRow (w.heap.size+1+1) vy = x:=⟨_,rfl⟩
  obtain ⟨Kw734,Tw734_1,fw734⟩:=st_row Kw733.out hw734 (fun _ => .inr rfl) Tw733_1.out
  have Kw734:=hid Kw734
  have Tw734_1:=hid Tw734_1
  have Tw734_0:=hid (fw734 _ _ (by omega) Tw733_0.out)
  clear fw734
  rw [hw734]
  clear hw734
  refine hK2.out _ _ Kw734.out (fun hHeld2 => ?_)
  clear hK2 K2
  try simp only [pu]
  refine wpAnyH_done (by kernel_rfl) ?_ _
  go_wp2
  refine bodyPost_ret (v:=.tuple #[.agg va,.agg vy]) (results_row_row rfl _ _ (w.heap.size+1) (w.heap.size+1+1) 39 39 va vy (0,0) (0,0) _ _ rfl Tw734_0.out rfl Tw734_1.out Tryz.underlying39 rfl Iva.out Tryz.underlying39 rfl Ivy.out) rfl ⟨rfl,HB.out.trans (But.to_below (KC.out.trans Kw734.out) HB.out.size (fun k hk q => by omega))⟩
theorem sub18_right (old:Int) (b0:List UInt8) (hb0:b0.length = 32) (X Y k:Int) (fl:Bool) (m c g o:Nat) (q x1 x2:List UInt8) (w:World) (hX:0 < X) (hXY:X < Y) (hY:Y ≤ 9223372036854775808) (hk:blwI Y = k) (hkb:1 ≤ k ∧ k < Y) (hlt:k < X) (hm:m ≤ 64) (hmc:m < c)
 (hr:w.rangeAt g (o+m * 32) (bytesV q)) (hg:g < w.heap.size) (ql:q.length = 32) (l1:x1.length = 32) (l2:x2.length = 32)
 (hsub:∀ w',Below w.heap.size w w' → Calls Tryz.prog 82 #[.int .u64 (X - k),.int .u64 (Y - k),.bool false,hv b0,.slice (some ⟨g,o,none⟩) m c] w' fun ev w2 => ev = .returned (.tuple #[hv x1,hv x2]) ∧ Below w'.heap.size w' w2) :
 Calls Tryz.prog 82 #[.int .u64 X,.int .u64 Y,.bool fl,hv b0,.slice (some ⟨g,o,none⟩) (m+1) c] w fun ev w' => ev = .returned (.tuple #[hv (nodeH q x1),hv (nodeH q x2)]) ∧ Below w.heap.size w w':=by
 obtain ⟨vl,evl,Hvl,Zvl,Ivl,Ovl⟩:=row_of b0 hb0
 obtain ⟨wv,hwv⟩:∃ y,(((w.alloc (.cells vl 39)).alloc (.cells (List.replicate 32 (Value.int .u8 0)).toArray 39)).alloc (.cells (List.replicate 32 (Value.int .u8 0)).toArray 39)) = y:=⟨_,rfl⟩
 have HB:Hid (Below w.heap.size w wv):=hid (by rw [← hwv];exact ((((Below.refl _ _).alloc (by simp;try omega) _).alloc (by simp;try omega) _).alloc (by simp;try omega) _))
 have HSV:Hid (wv.heap.size = w.heap.size+1+1+1):=hid (by rw [← hwv];simp)
 have RL:Hid (wv.heap[w.heap.size]? = some (.cells vl 39 (0,0))):=hid (by rw [← hwv];simp only [World.alloc,Array.getElem?_push,Array.size_push];(repeat' split) <;> first | rfl | (exfalso;omega) | simp_all)
 have RA:Hid (wv.heap[(w.heap.size+1)]? = some (.cells (List.replicate 32 (Value.int .u8 0)).toArray 39 (0,0))):=hid (by rw [← hwv];simp only [World.alloc,Array.getElem?_push,Array.size_push];(repeat' split) <;> first | rfl | (exfalso;omega) | simp_all)
 have RB:Hid (wv.heap[(w.heap.size+1+1)]? = some (.cells (List.replicate 32 (Value.int .u8 0)).toArray 39 (0,0))):=hid (by rw [← hwv];simp only [World.alloc,Array.getElem?_push,Array.size_push];(repeat' split) <;> first | rfl | (exfalso;omega) | simp_all)
 have HWV:=hid hwv
 simp only [List.replicate,List.toArray] at HWV
 have HHALF:=hid (fun w' => half18 Y w' (by omega) hY)
 rw [hk] at HHALF
 obtain ⟨va,eva,Hva,Zva,Iva,Ova⟩:=row_of x1 l1
 obtain ⟨vb,evb,Hvb,Zvb,Ivb,Ovb⟩:=row_of x2 l2
 obtain ⟨vq,evq,Hvq,Zvq,Ivq,Ovq⟩:=row_of q ql
 obtain ⟨pq,hpq⟩:∃ z,bytesV q = z:=⟨_,rfl⟩
 have HPV:Hid (pq.toArray = vq):=hid (by rw [← hpq];exact Hvq.out)
 have HIQ:Hid ((Tryz.prog.info? 39).map (·.size) = some pq.length):=hid (by rw [← hpq,bytesV_length,ql];kernel_rfl)
 have KQ:Hid (∀ w',But (fun k => k = w.heap.size+1 ∨ k = w.heap.size+1+1) wv w' → w'.rangeAt g (o+m * 32) pq):=hid (fun w' h => by rw [← hpq];exact rangeAt_below (HB.out.trans (h.to_below HB.out.size (fun k hk q => by omega))) hr hg)
 have HSUB:Hid (∀ w',But (fun k => k = w.heap.size+1 ∨ k = w.heap.size+1+1) wv w' → Calls Tryz.prog 82 #[.int .u64 (X - k),.int .u64 (Y - k),.bool false,.agg vl,.slice (some ⟨g,o,none⟩) m c] w' fun ev w2 => ev = .returned (.tuple #[.agg va,.agg vb]) ∧ Below w'.heap.size w' w2):=hid (fun w' h => by
  have:=hsub w' (HB.out.trans (h.to_below HB.out.size (fun k hk q => by omega)))
  rw [evl,eva,evb] at this;exact this)
 obtain ⟨vx,evx,Hvx,Zvx,Ivx,Ovx⟩:=row_of (nodeH q x1) (nodeH_length _ _)
 obtain ⟨vy,evy,Hvy,Zvy,Ivy,Ovy⟩:=row_of (nodeH q x2) (nodeH_length _ _)
 have HN1:Hid (∀ w',Calls Tryz.prog 85 #[.agg pq.toArray,.agg va] w' fun ev w2 => ev = .returned (.agg vx) ∧ Below w'.heap.size w' w2):=hid (fun w' => by
  have:=refnode_any q x1 w' ql l1
  rw [eva,evq,evx] at this
  rw [HPV.out];exact this)
 have HND:Hid (∀ w',Calls Tryz.prog 85 #[.agg pq.toArray,.agg vb] w' fun ev w2 => ev = .returned (.agg vy) ∧ Below w'.heap.size w' w2):=hid (fun w' => by
  have:=refnode_any q x2 w' ql l2
  rw [evb,evq,evy] at this
  rw [HPV.out];exact this)
 rw [evl,evx,evy]
 obtain ⟨n,hn⟩:∃ n,m+1 = n:=⟨_,rfl⟩
 rw [hn]
 have t1:(X == Y) = false:=by simp;omega
 have k1:(m:Int) ≤ c:=by omega
 have k2:(m:Int) < n:=by omega
 have k3:(0:Int) ≤ m:=by omega
 have k4:IntKind.i64.wrap ((n:Int) - 1) = m:=by rw [IntWalk.i64_in _ (by omega)];omega
 have k5:(n:Int) - 1 = m:=by omega
 have k6:m ≤ c:=by omega
 have k7:m < n:=by omega
 have k11:(m:Int) ≤ 64:=by omega
 have k8:IntKind.u64.wrap (X - k) = X - k:=IntWalk.u64_in _ (by omega)
 have k9:IntKind.u64.wrap (Y - k) = Y - k:=IntWalk.u64_in _ (by omega)
 clear evl eva evb evq evx evy hpq hr hsub hwv hn ql l1 l2 hg hmc hk
 go_enter Tryz.func82,Tryz.ntmps82
 go_upto_region 1 with fail
 rw [HWV.out]
 go_wp2_with fail
 refine (HHALF.out wv).mono ?_
 rintro ev w0 ⟨rfl,rfl⟩
 go_upto_region 10 with fail
 go_cut [16,17] (fun s1 s2 w8 => ∃ g1 g2:Nat,s1 = .pointer (some ⟨g1,0,none⟩) ∧ s2 = .pointer (some ⟨g2,0,none⟩) ∧ Hid (wv.heap.size ≤ g1 ∧ wv.heap.size ≤ g2 ∧ But (fun k => k = w.heap.size+1 ∨ k = w.heap.size+1+1) wv w8 ∧ w8.heap[g1]? = some (.cells va 39 (0,0)) ∧ w8.heap[g2]? = some (.cells vb 39 (0,0)) ∧ w8.heap[(w.heap.size+1)]? = some (.cells (List.replicate 32 (Value.int .u8 0)).toArray 39 (0,0)) ∧ w8.heap[(w.heap.size+1+1)]? = some (.cells (List.replicate 32 (Value.int .u8 0)).toArray 39 (0,0))))
 case first =>
  refine wp_region_held_drew (S:=But (fun k => k = w.heap.size+1 ∨ k = w.heap.size+1+1) wv) (by kernel_rfl) (But.refl _ _).drew (fun hHeld => ?_)
  refine tk (i:=0) (v:=?v46) rfl ?y46 ?r46
  case y46 => (intro w hSw;(try dsimp only at hSw);go_simp;(try with_reducible rfl))
  try simp only [pu]
  refine tk (i:=1) (v:=?v47) rfl ?y47 ?r47
  case y47 => (intro w hSw;(try dsimp only at hSw);go_simp;(try with_reducible rfl))
  try simp only [pu]
  refine tk (i:=2) (v:=?v48) rfl ?y48 ?r48
  case y48 => (intro w hSw;(try dsimp only at hSw);go_simp;(try with_reducible rfl))
  try simp only [pu]
  refine tk (i:=3) (v:=?v49) rfl ?y49 ?r49
  case y49 => (intro w hSw;(try dsimp only at hSw);go_simp;(try with_reducible rfl))
  try simp only [pu]
  refine tk (i:=4) (v:=?v50) rfl ?y50 ?r50
  case y50 => (intro w hSw;(try dsimp only at hSw);go_simp;(try with_reducible rfl))
  try simp only [pu]
  refine tk (i:=5) (v:=?v51) rfl ?y51 ?r51
  case y51 => (intro w hSw;(try dsimp only at hSw);go_simp;(try with_reducible rfl))
  try simp only [pu]
  refine tw (i:=6) rfl (yieldsIf_load_row (by rfl) 39 _ (by rfl) w.heap.size (by rfl) 39 vl (0,0) _ (fun w h => (But.same h _ (by have:=HSV.out;omega) (by omega)).trans RL.out) Tryz.underlying39 rfl Ivl.out) ?_
  try simp only [pu]
  refine tk (i:=7) (v:=?v53) rfl ?y53 ?r53
  case y53 => (intro w hSw;(try dsimp only at hSw);go_simp;(try with_reducible rfl))
  try simp only [pu]
  refine tk (i:=8) (v:=?v54) rfl ?y54 ?r54
  case y54 => (intro w hSw;(try dsimp only at hSw);go_simp;(try with_reducible rfl))
  try simp only [pu]
  refine tk (i:=9) (v:=?v55) rfl ?y55 ?r55
  case y55 => (intro w hSw;(try dsimp only at hSw);go_simp;(try with_reducible rfl))
  try simp only [pu]
  refine wpAnyH_ready (rs:=[10,14,15]) (by kernel_rfl) (by simp) ?_
  refine AllReadyH.cons (i:=10) rfl (fun K2 hK2 => ?_) ?more56
  ·skip
   go_simp
   go_at_call 82
   refine (HSUB.out wv.drew ((But.refl (fun k => k = w.heap.size+1 ∨ k = w.heap.size+1+1) wv).drew)).mono ?_
   rintro ev w735 ⟨rfl,bw735⟩
   try go_wp2_with fail
   obtain ⟨Kw735,fw735⟩:=st_call ((But.refl (fun k => k = w.heap.size+1 ∨ k = w.heap.size+1+1) wv).drew) bw735
   have Kw735:=hid Kw735
   have Tw735_0:=hid (fw735 _ _ (show wv.drew.heap[(w.heap.size+1)]? = _ from RA.out))
   have Tw735_1:=hid (fw735 _ _ (show wv.drew.heap[(w.heap.size+1+1)]? = _ from RB.out))
   clear bw735 fw735
   refine hK2.out _ _ Kw735.out (fun hHeld2 => ?_)
   clear hK2 K2
   try simp only [pu]
   refine tk (i:=11) (v:=?v57) rfl ?y57 ?r57
   case y57 => (intro w hSw;(try dsimp only at hSw);go_simp;(try with_reducible rfl))
   try simp only [pu]
   refine tk (i:=12) (v:=?v58) rfl ?y58 ?r58
   case y58 => (intro w hSw;(try dsimp only at hSw);go_simp;(try with_reducible rfl))
   try simp only [pu]
   refine tk (i:=13) (v:=?v59) rfl ?y59 ?r59
   case y59 => (intro w hSw;(try dsimp only at hSw);go_simp;(try with_reducible rfl))
   try simp only [pu]
   refine wpAnyH_ready (rs:=[14,15]) (by kernel_rfl) (by simp) ?_
   refine AllReadyH.cons (i:=14) rfl (fun K2 hK2 => ?_) ?more60
   ·skip
    go_simp
    obtain ⟨w736,hw736⟩:∃ x,(w735.alloc (.cells (List.replicate 32 (Value.int .u8 0)).toArray 39)) = x:=⟨_,rfl⟩
    obtain ⟨g736,hg736⟩:∃ x,w735.heap.size = x:=⟨_,rfl⟩
    obtain ⟨Kw736,Tw736_2,qw736,fw736⟩:=st_alloc Kw735.out hw736 hg736
    simp only [List.replicate] at hw736;rw [hw736,hg736];clear hw736 hg736
    have Kw736:=hid Kw736
    have Tw736_2:=hid Tw736_2
    obtain ⟨Tw736_0,dw736_0⟩:=fw736 _ _ Tw735_0.out
    have Tw736_0:=hid Tw736_0
    obtain ⟨Tw736_1,dw736_1⟩:=fw736 _ _ Tw735_1.out
    have Tw736_1:=hid Tw736_1
    clear fw736
    refine hK2.out _ _ Kw736.out (fun hHeld2 => ?_)
    clear hK2 K2
    try simp only [pu]
    refine wpAnyH_ready (rs:=[15]) (by kernel_rfl) (by simp) ?_
    refine AllReadyH.cons (i:=15) rfl (fun K2 hK2 => ?_) AllReadyH.nil
    go_simp
    obtain ⟨w737,hw737⟩:∃ x,(w736.alloc (.cells (List.replicate 32 (Value.int .u8 0)).toArray 39)) = x:=⟨_,rfl⟩
    obtain ⟨g737,hg737⟩:∃ x,w736.heap.size = x:=⟨_,rfl⟩
    obtain ⟨Kw737,Tw737_3,qw737,fw737⟩:=st_alloc Kw736.out hw737 hg737
    simp only [List.replicate] at hw737;rw [hw737,hg737];clear hw737 hg737
    have Kw737:=hid Kw737
    have Tw737_3:=hid Tw737_3
    obtain ⟨Tw737_0,dw737_0⟩:=fw737 _ _ Tw736_0.out
    have Tw737_0:=hid Tw737_0
    obtain ⟨Tw737_1,dw737_1⟩:=fw737 _ _ Tw736_1.out
    have Tw737_1:=hid Tw737_1
    obtain ⟨Tw737_2,dw737_2⟩:=fw737 _ _ Tw736_2.out
    have Tw737_2:=hid Tw737_2
    clear fw737
    refine hK2.out _ _ Kw737.out (fun hHeld2 => ?_)
    clear hK2 K2
    try simp only [pu]
    refine wpAnyH_ready (rs:=[16]) (by kernel_rfl) (by simp) ?_
    refine AllReadyH.cons (i:=16) rfl (fun K2 hK2 => ?_) AllReadyH.nil
    rw [if_pos (by rfl)]
    refine wp_store_row 39 _ _ rfl g736 va rfl rfl 39 _ Tw737_2.out Iva.out (by rw [Zva.out];rfl) Ova.out ?_
    obtain ⟨w738,hw738⟩:∃ x,w737.setRow g736 va = x:=⟨_,rfl⟩
    obtain ⟨Kw738,Tw738_2,fw738⟩:=st_row Kw737.out hw738 (fun h => absurd h (by omega)) Tw737_2.out
    have Kw738:=hid Kw738
    have Tw738_2:=hid Tw738_2
    have Tw738_0:=hid (fw738 _ _ (by omega) Tw737_0.out)
    have Tw738_1:=hid (fw738 _ _ (by omega) Tw737_1.out)
    have Tw738_3:=hid (fw738 _ _ (by omega) Tw737_3.out)
    clear fw738
    rw [hw738]
    clear hw738
    refine hK2.out _ _ Kw738.out (fun hHeld2 => ?_)
    clear hK2 K2
    try simp only [pu]
    refine wpAnyH_ready (rs:=[17]) (by kernel_rfl) (by simp) ?_
    refine AllReadyH.cons (i:=17) rfl (fun K2 hK2 => ?_) AllReadyH.nil
    rw [if_pos (by rfl)]
    refine wp_store_row 39 _ _ rfl g737 vb rfl rfl 39 _ Tw738_3.out Ivb.out (by rw [Zvb.out];rfl) Ovb.out ?_
    obtain ⟨w739,hw739⟩:∃ x,w738.setRow g737 vb = x:=⟨_,rfl⟩
    obtain ⟨Kw739,Tw739_3,fw739⟩:=st_row Kw738.out hw739 (fun h => absurd h (by omega)) Tw738_3.out
    have Kw739:=hid Kw739
    have Tw739_3:=hid Tw739_3
    have Tw739_0:=hid (fw739 _ _ (by omega) Tw738_0.out)
    have Tw739_1:=hid (fw739 _ _ (by omega) Tw738_1.out)
    have Tw739_2:=hid (fw739 _ _ (by omega) Tw738_2.out)
    clear fw739
    rw [hw739]
    clear hw739
    refine hK2.out _ _ Kw739.out (fun hHeld2 => ?_)
    clear hK2 K2
    try simp only [pu]
    refine wpAnyH_done (by kernel_rfl) ?_ _
    go_wp2_with fail
    go_meet
    exact ⟨_,_,rfl,rfl,hid ⟨qw736,qw737,Kw739.out,Tw739_2.out,Tw739_3.out,Tw739_0.out,Tw739_1.out⟩⟩
   refine AllReadyH.cons (i:=15) rfl (fun K2 hK2 => ?_) ?more61
   ·skip
    go_simp
    obtain ⟨w740,hw740⟩:∃ x,(w735.alloc (.cells (List.replicate 32 (Value.int .u8 0)).toArray 39)) = x:=⟨_,rfl⟩
    obtain ⟨g740,hg740⟩:∃ x,w735.heap.size = x:=⟨_,rfl⟩
    obtain ⟨Kw740,Tw740_2,qw740,fw740⟩:=st_alloc Kw735.out hw740 hg740
    simp only [List.replicate] at hw740;rw [hw740,hg740];clear hw740 hg740
    have Kw740:=hid Kw740
    have Tw740_2:=hid Tw740_2
    obtain ⟨Tw740_0,dw740_0⟩:=fw740 _ _ Tw735_0.out
    have Tw740_0:=hid Tw740_0
    obtain ⟨Tw740_1,dw740_1⟩:=fw740 _ _ Tw735_1.out
    have Tw740_1:=hid Tw740_1
    clear fw740
    refine hK2.out _ _ Kw740.out (fun hHeld2 => ?_)
    clear hK2 K2
    try simp only [pu]
    refine wpAnyH_ready (rs:=[14]) (by kernel_rfl) (by simp) ?_
    refine AllReadyH.cons (i:=14) rfl (fun K2 hK2 => ?_) AllReadyH.nil
    go_simp
    obtain ⟨w741,hw741⟩:∃ x,(w740.alloc (.cells (List.replicate 32 (Value.int .u8 0)).toArray 39)) = x:=⟨_,rfl⟩
    obtain ⟨g741,hg741⟩:∃ x,w740.heap.size = x:=⟨_,rfl⟩
    obtain ⟨Kw741,Tw741_3,qw741,fw741⟩:=st_alloc Kw740.out hw741 hg741
    simp only [List.replicate] at hw741;rw [hw741,hg741];clear hw741 hg741
    have Kw741:=hid Kw741
    have Tw741_3:=hid Tw741_3
    obtain ⟨Tw741_0,dw741_0⟩:=fw741 _ _ Tw740_0.out
    have Tw741_0:=hid Tw741_0
    obtain ⟨Tw741_1,dw741_1⟩:=fw741 _ _ Tw740_1.out
    have Tw741_1:=hid Tw741_1
    obtain ⟨Tw741_2,dw741_2⟩:=fw741 _ _ Tw740_2.out
    have Tw741_2:=hid Tw741_2
    clear fw741
    refine hK2.out _ _ Kw741.out (fun hHeld2 => ?_)
    clear hK2 K2
    try simp only [pu]
    refine wpAnyH_ready (rs:=[16]) (by kernel_rfl) (by simp) ?_
    refine AllReadyH.cons (i:=16) rfl (fun K2 hK2 => ?_) AllReadyH.nil
    rw [if_pos (by rfl)]
    refine wp_store_row 39 _ _ rfl g741 va rfl rfl 39 _ Tw741_3.out Iva.out (by rw [Zva.out];rfl) Ova.out ?_
    obtain ⟨w742,hw742⟩:∃ x,w741.setRow g741 va = x:=⟨_,rfl⟩
    obtain ⟨Kw742,Tw742_3,fw742⟩:=st_row Kw741.out hw742 (fun h => absurd h (by omega)) Tw741_3.out
    have Kw742:=hid Kw742
    have Tw742_3:=hid Tw742_3
    have Tw742_0:=hid (fw742 _ _ (by omega) Tw741_0.out)
    have Tw742_1:=hid (fw742 _ _ (by omega) Tw741_1.out)
    have Tw742_2:=hid (fw742 _ _ (by omega) Tw741_2.out)
    clear fw742
    rw [hw742]
    clear hw742
    refine hK2.out _ _ Kw742.out (fun hHeld2 => ?_)
    clear hK2 K2
    try simp only [pu]
    refine wpAnyH_ready (rs:=[17]) (by kernel_rfl) (by simp) ?_
    refine AllReadyH.cons (i:=17) rfl (fun K2 hK2 => ?_) AllReadyH.nil
    rw [if_pos (by rfl)]
    refine wp_store_row 39 _ _ rfl g740 vb rfl rfl 39 _ Tw742_2.out Ivb.out (by rw [Zvb.out];rfl) Ovb.out ?_
    obtain ⟨w743,hw743⟩:∃ x,w742.setRow g740 vb = x:=⟨_,rfl⟩
    obtain ⟨Kw743,Tw743_2,fw743⟩:=st_row Kw742.out hw743 (fun h => absurd h (by omega)) Tw742_2.out
    have Kw743:=hid Kw743
    have Tw743_2:=hid Tw743_2
    have Tw743_0:=hid (fw743 _ _ (by omega) Tw742_0.out)
    have Tw743_1:=hid (fw743 _ _ (by omega) Tw742_1.out)
    have Tw743_3:=hid (fw743 _ _ (by omega) Tw742_3.out)
    clear fw743
    rw [hw743]
    clear hw743
    refine hK2.out _ _ Kw743.out (fun hHeld2 => ?_)
    clear hK2 K2
    try simp only [pu]
    refine wpAnyH_done (by kernel_rfl) ?_ _
    go_wp2_with fail
    go_meet
    exact ⟨_,_,rfl,rfl,hid ⟨qw741,qw740,Kw743.out,Tw743_3.out,Tw743_2.out,Tw743_0.out,Tw743_1.out⟩⟩
   exact AllReadyH.nil
  refine AllReadyH.cons (i:=14) rfl (fun K2 hK2 => ?_) ?more62
  ·skip
   go_simp
   obtain ⟨w744,hw744⟩:∃ x,(wv.alloc (.cells (List.replicate 32 (Value.int .u8 0)).toArray 39)).drew = x:=⟨_,rfl⟩
   obtain ⟨g744,hg744⟩:∃ x,wv.heap.size = x:=⟨_,rfl⟩
   obtain ⟨Kw744,Tw744_2,qw744,fw744⟩:=st_alloc ((But.refl (fun k => k = w.heap.size+1 ∨ k = w.heap.size+1+1) wv).drew) hw744 hg744
   simp only [List.replicate] at hw744;rw [hw744,hg744];clear hw744 hg744
   have Kw744:=hid Kw744
   have Tw744_2:=hid Tw744_2
   obtain ⟨Tw744_0,dw744_0⟩:=fw744 _ _ (show wv.drew.heap[(w.heap.size+1)]? = _ from RA.out)
   have Tw744_0:=hid Tw744_0
   obtain ⟨Tw744_1,dw744_1⟩:=fw744 _ _ (show wv.drew.heap[(w.heap.size+1+1)]? = _ from RB.out)
   have Tw744_1:=hid Tw744_1
   clear fw744
   refine hK2.out _ _ Kw744.out (fun hHeld2 => ?_)
   clear hK2 K2
   try simp only [pu]
   refine wpAnyH_ready (rs:=[10,15]) (by kernel_rfl) (by simp) ?_
   refine AllReadyH.cons (i:=10) rfl (fun K2 hK2 => ?_) ?more63
   ·skip
    go_simp
    go_at_call 82
    refine (HSUB.out w744 Kw744.out).mono ?_
    rintro ev w745 ⟨rfl,bw745⟩
    try go_wp2_with fail
    obtain ⟨Kw745,fw745⟩:=st_call Kw744.out bw745
    have Kw745:=hid Kw745
    have Tw745_0:=hid (fw745 _ _ Tw744_0.out)
    have Tw745_1:=hid (fw745 _ _ Tw744_1.out)
    have Tw745_2:=hid (fw745 _ _ Tw744_2.out)
    clear bw745 fw745
    refine hK2.out _ _ Kw745.out (fun hHeld2 => ?_)
    clear hK2 K2
    try simp only [pu]
    refine tk (i:=11) (v:=?v64) rfl ?y64 ?r64
    case y64 => (intro w hSw;(try dsimp only at hSw);go_simp;(try with_reducible rfl))
    try simp only [pu]
    refine tk (i:=12) (v:=?v65) rfl ?y65 ?r65
    case y65 => (intro w hSw;(try dsimp only at hSw);go_simp;(try with_reducible rfl))
    try simp only [pu]
    refine tk (i:=13) (v:=?v66) rfl ?y66 ?r66
    case y66 => (intro w hSw;(try dsimp only at hSw);go_simp;(try with_reducible rfl))
    try simp only [pu]
    refine wpAnyH_ready (rs:=[15]) (by kernel_rfl) (by simp) ?_
    refine AllReadyH.cons (i:=15) rfl (fun K2 hK2 => ?_) AllReadyH.nil
    go_simp
    obtain ⟨w746,hw746⟩:∃ x,(w745.alloc (.cells (List.replicate 32 (Value.int .u8 0)).toArray 39)) = x:=⟨_,rfl⟩
    obtain ⟨g746,hg746⟩:∃ x,w745.heap.size = x:=⟨_,rfl⟩
    obtain ⟨Kw746,Tw746_3,qw746,fw746⟩:=st_alloc Kw745.out hw746 hg746
    simp only [List.replicate] at hw746;rw [hw746,hg746];clear hw746 hg746
    have Kw746:=hid Kw746
    have Tw746_3:=hid Tw746_3
    obtain ⟨Tw746_0,dw746_0⟩:=fw746 _ _ Tw745_0.out
    have Tw746_0:=hid Tw746_0
    obtain ⟨Tw746_1,dw746_1⟩:=fw746 _ _ Tw745_1.out
    have Tw746_1:=hid Tw746_1
    obtain ⟨Tw746_2,dw746_2⟩:=fw746 _ _ Tw745_2.out
    have Tw746_2:=hid Tw746_2
    clear fw746
    refine hK2.out _ _ Kw746.out (fun hHeld2 => ?_)
    clear hK2 K2
    try simp only [pu]
    refine wpAnyH_ready (rs:=[16]) (by kernel_rfl) (by simp) ?_
    refine AllReadyH.cons (i:=16) rfl (fun K2 hK2 => ?_) AllReadyH.nil
    rw [if_pos (by rfl)]
    refine wp_store_row 39 _ _ rfl g744 va rfl rfl 39 _ Tw746_2.out Iva.out (by rw [Zva.out];rfl) Ova.out ?_
    obtain ⟨w747,hw747⟩:∃ x,w746.setRow g744 va = x:=⟨_,rfl⟩
    obtain ⟨Kw747,Tw747_2,fw747⟩:=st_row Kw746.out hw747 (fun h => absurd h (by omega)) Tw746_2.out
    have Kw747:=hid Kw747
    have Tw747_2:=hid Tw747_2
    have Tw747_0:=hid (fw747 _ _ (by omega) Tw746_0.out)
    have Tw747_1:=hid (fw747 _ _ (by omega) Tw746_1.out)
    have Tw747_3:=hid (fw747 _ _ (by omega) Tw746_3.out)
    clear fw747
    rw [hw747]
    clear hw747
    refine hK2.out _ _ Kw747.out (fun hHeld2 => ?_)
    clear hK2 K2
    try simp only [pu]
    refine wpAnyH_ready (rs:=[17]) (by kernel_rfl) (by simp) ?_
    refine AllReadyH.cons (i:=17) rfl (fun K2 hK2 => ?_) AllReadyH.nil
    rw [if_pos (by rfl)]
    refine wp_store_row 39 _ _ rfl g746 vb rfl rfl 39 _ Tw747_3.out Ivb.out (by rw [Zvb.out];rfl) Ovb.out ?_
    obtain ⟨w748,hw748⟩:∃ x,w747.setRow g746 vb = x:=⟨_,rfl⟩
    obtain ⟨Kw748,Tw748_3,fw748⟩:=st_row Kw747.out hw748 (fun h => absurd h (by omega)) Tw747_3.out
    have Kw748:=hid Kw748
    have Tw748_3:=hid Tw748_3
    have Tw748_0:=hid (fw748 _ _ (by omega) Tw747_0.out)
    have Tw748_1:=hid (fw748 _ _ (by omega) Tw747_1.out)
    have Tw748_2:=hid (fw748 _ _ (by omega) Tw747_2.out)
    clear fw748
    rw [hw748]
    clear hw748
    refine hK2.out _ _ Kw748.out (fun hHeld2 => ?_)
    clear hK2 K2
    try simp only [pu]
    refine wpAnyH_done (by kernel_rfl) ?_ _
    go_wp2_with fail
    go_meet
    exact ⟨_,_,rfl,rfl,hid ⟨qw744,qw746,Kw748.out,Tw748_2.out,Tw748_3.out,Tw748_0.out,Tw748_1.out⟩⟩
   refine AllReadyH.cons (i:=15) rfl (fun K2 hK2 => ?_) ?more67
   ·skip
    go_simp
    obtain ⟨w749,hw749⟩:∃ x,(w744.alloc (.cells (List.replicate 32 (Value.int .u8 0)).toArray 39)) = x:=⟨_,rfl⟩
    obtain ⟨g749,hg749⟩:∃ x,w744.heap.size = x:=⟨_,rfl⟩
    obtain ⟨Kw749,Tw749_3,qw749,fw749⟩:=st_alloc Kw744.out hw749 hg749
    simp only [List.replicate] at hw749;rw [hw749,hg749];clear hw749 hg749
    have Kw749:=hid Kw749
    have Tw749_3:=hid Tw749_3
    obtain ⟨Tw749_0,dw749_0⟩:=fw749 _ _ Tw744_0.out
    have Tw749_0:=hid Tw749_0
    obtain ⟨Tw749_1,dw749_1⟩:=fw749 _ _ Tw744_1.out
    have Tw749_1:=hid Tw749_1
    obtain ⟨Tw749_2,dw749_2⟩:=fw749 _ _ Tw744_2.out
    have Tw749_2:=hid Tw749_2
    clear fw749
    refine hK2.out _ _ Kw749.out (fun hHeld2 => ?_)
    clear hK2 K2
    try simp only [pu]
    refine wpAnyH_ready (rs:=[10]) (by kernel_rfl) (by simp) ?_
    refine AllReadyH.cons (i:=10) rfl (fun K2 hK2 => ?_) AllReadyH.nil
    go_simp
    go_at_call 82
    refine (HSUB.out w749 Kw749.out).mono ?_
    rintro ev w750 ⟨rfl,bw750⟩
    try go_wp2_with fail
    obtain ⟨Kw750,fw750⟩:=st_call Kw749.out bw750
    have Kw750:=hid Kw750
    have Tw750_0:=hid (fw750 _ _ Tw749_0.out)
    have Tw750_1:=hid (fw750 _ _ Tw749_1.out)
    have Tw750_2:=hid (fw750 _ _ Tw749_2.out)
    have Tw750_3:=hid (fw750 _ _ Tw749_3.out)
    clear bw750 fw750
    refine hK2.out _ _ Kw750.out (fun hHeld2 => ?_)
    clear hK2 K2
    try simp only [pu]
    refine tk (i:=11) (v:=?v68) rfl ?y68 ?r68
    case y68 => (intro w hSw;(try dsimp only at hSw);go_simp;(try with_reducible rfl))
    try simp only [pu]
    refine tk (i:=12) (v:=?v69) rfl ?y69 ?r69
    case y69 => (intro w hSw;(try dsimp only at hSw);go_simp;(try with_reducible rfl))
    try simp only [pu]
    refine tk (i:=13) (v:=?v70) rfl ?y70 ?r70
    case y70 => (intro w hSw;(try dsimp only at hSw);go_simp;(try with_reducible rfl))
    try simp only [pu]
    refine wpAnyH_ready (rs:=[16]) (by kernel_rfl) (by simp) ?_
    refine AllReadyH.cons (i:=16) rfl (fun K2 hK2 => ?_) AllReadyH.nil
    rw [if_pos (by rfl)]
    refine wp_store_row 39 _ _ rfl g744 va rfl rfl 39 _ Tw750_2.out Iva.out (by rw [Zva.out];rfl) Ova.out ?_
    obtain ⟨w751,hw751⟩:∃ x,w750.setRow g744 va = x:=⟨_,rfl⟩
    obtain ⟨Kw751,Tw751_2,fw751⟩:=st_row Kw750.out hw751 (fun h => absurd h (by omega)) Tw750_2.out
    have Kw751:=hid Kw751
    have Tw751_2:=hid Tw751_2
    have Tw751_0:=hid (fw751 _ _ (by omega) Tw750_0.out)
    have Tw751_1:=hid (fw751 _ _ (by omega) Tw750_1.out)
    have Tw751_3:=hid (fw751 _ _ (by omega) Tw750_3.out)
    clear fw751
    rw [hw751]
    clear hw751
    refine hK2.out _ _ Kw751.out (fun hHeld2 => ?_)
    clear hK2 K2
    try simp only [pu]
    refine wpAnyH_ready (rs:=[17]) (by kernel_rfl) (by simp) ?_
    refine AllReadyH.cons (i:=17) rfl (fun K2 hK2 => ?_) AllReadyH.nil
    rw [if_pos (by rfl)]
    refine wp_store_row 39 _ _ rfl g749 vb rfl rfl 39 _ Tw751_3.out Ivb.out (by rw [Zvb.out];rfl) Ovb.out ?_
    obtain ⟨w752,hw752⟩:∃ x,w751.setRow g749 vb = x:=⟨_,rfl⟩
    obtain ⟨Kw752,Tw752_3,fw752⟩:=st_row Kw751.out hw752 (fun h => absurd h (by omega)) Tw751_3.out
    have Kw752:=hid Kw752
    have Tw752_3:=hid Tw752_3
    have Tw752_0:=hid (fw752 _ _ (by omega) Tw751_0.out)
    have Tw752_1:=hid (fw752 _ _ (by omega) Tw751_1.out)
    have Tw752_2:=hid (fw752 _ _ (by omega) Tw751_2.out)
    clear fw752
    rw [hw752]
    clear hw752
    refine hK2.out _ _ Kw752.out (fun hHeld2 => ?_)
    clear hK2 K2
    try simp only [pu]
    refine wpAnyH_done (by kernel_rfl) ?_ _
    go_wp2_with fail
    go_meet
    exact ⟨_,_,rfl,rfl,hid ⟨qw744,qw749,Kw752.out,Tw752_2.out,Tw752_3.out,Tw752_0.out,Tw752_1.out⟩⟩
   exact AllReadyH.nil
  refine AllReadyH.cons (i:=15) rfl (fun K2 hK2 => ?_) ?more71
  ·skip
   go_simp
   obtain ⟨w753,hw753⟩:∃ x,(wv.alloc (.cells (List.replicate 32 (Value.int .u8 0)).toArray 39)).drew = x:=⟨_,rfl⟩
   obtain ⟨g753,hg753⟩:∃ x,wv.heap.size = x:=⟨_,rfl⟩
   obtain ⟨Kw753,Tw753_2,qw753,fw753⟩:=st_alloc ((But.refl (fun k => k = w.heap.size+1 ∨ k = w.heap.size+1+1) wv).drew) hw753 hg753
   simp only [List.replicate] at hw753;rw [hw753,hg753];clear hw753 hg753
   have Kw753:=hid Kw753
   have Tw753_2:=hid Tw753_2
   obtain ⟨Tw753_0,dw753_0⟩:=fw753 _ _ (show wv.drew.heap[(w.heap.size+1)]? = _ from RA.out)
   have Tw753_0:=hid Tw753_0
   obtain ⟨Tw753_1,dw753_1⟩:=fw753 _ _ (show wv.drew.heap[(w.heap.size+1+1)]? = _ from RB.out)
   have Tw753_1:=hid Tw753_1
   clear fw753
   refine hK2.out _ _ Kw753.out (fun hHeld2 => ?_)
   clear hK2 K2
   try simp only [pu]
   refine wpAnyH_ready (rs:=[10,14]) (by kernel_rfl) (by simp) ?_
   refine AllReadyH.cons (i:=10) rfl (fun K2 hK2 => ?_) ?more72
   ·skip
    go_simp
    go_at_call 82
    refine (HSUB.out w753 Kw753.out).mono ?_
    rintro ev w754 ⟨rfl,bw754⟩
    try go_wp2_with fail
    obtain ⟨Kw754,fw754⟩:=st_call Kw753.out bw754
    have Kw754:=hid Kw754
    have Tw754_0:=hid (fw754 _ _ Tw753_0.out)
    have Tw754_1:=hid (fw754 _ _ Tw753_1.out)
    have Tw754_2:=hid (fw754 _ _ Tw753_2.out)
    clear bw754 fw754
    refine hK2.out _ _ Kw754.out (fun hHeld2 => ?_)
    clear hK2 K2
    try simp only [pu]
    refine tk (i:=11) (v:=?v73) rfl ?y73 ?r73
    case y73 => (intro w hSw;(try dsimp only at hSw);go_simp;(try with_reducible rfl))
    try simp only [pu]
    refine tk (i:=12) (v:=?v74) rfl ?y74 ?r74
    case y74 => (intro w hSw;(try dsimp only at hSw);go_simp;(try with_reducible rfl))
    try simp only [pu]
    refine tk (i:=13) (v:=?v75) rfl ?y75 ?r75
    case y75 => (intro w hSw;(try dsimp only at hSw);go_simp;(try with_reducible rfl))
    try simp only [pu]
    refine wpAnyH_ready (rs:=[14]) (by kernel_rfl) (by simp) ?_
    refine AllReadyH.cons (i:=14) rfl (fun K2 hK2 => ?_) AllReadyH.nil
    go_simp
    obtain ⟨w755,hw755⟩:∃ x,(w754.alloc (.cells (List.replicate 32 (Value.int .u8 0)).toArray 39)) = x:=⟨_,rfl⟩
    obtain ⟨g755,hg755⟩:∃ x,w754.heap.size = x:=⟨_,rfl⟩
    obtain ⟨Kw755,Tw755_3,qw755,fw755⟩:=st_alloc Kw754.out hw755 hg755
    simp only [List.replicate] at hw755;rw [hw755,hg755];clear hw755 hg755
    have Kw755:=hid Kw755
    have Tw755_3:=hid Tw755_3
    obtain ⟨Tw755_0,dw755_0⟩:=fw755 _ _ Tw754_0.out
    have Tw755_0:=hid Tw755_0
    obtain ⟨Tw755_1,dw755_1⟩:=fw755 _ _ Tw754_1.out
    have Tw755_1:=hid Tw755_1
    obtain ⟨Tw755_2,dw755_2⟩:=fw755 _ _ Tw754_2.out
    have Tw755_2:=hid Tw755_2
    clear fw755
    refine hK2.out _ _ Kw755.out (fun hHeld2 => ?_)
    clear hK2 K2
    try simp only [pu]
    refine wpAnyH_ready (rs:=[16]) (by kernel_rfl) (by simp) ?_
    refine AllReadyH.cons (i:=16) rfl (fun K2 hK2 => ?_) AllReadyH.nil
    rw [if_pos (by rfl)]
    refine wp_store_row 39 _ _ rfl g755 va rfl rfl 39 _ Tw755_3.out Iva.out (by rw [Zva.out];rfl) Ova.out ?_
    obtain ⟨w756,hw756⟩:∃ x,w755.setRow g755 va = x:=⟨_,rfl⟩
    obtain ⟨Kw756,Tw756_3,fw756⟩:=st_row Kw755.out hw756 (fun h => absurd h (by omega)) Tw755_3.out
    have Kw756:=hid Kw756
    have Tw756_3:=hid Tw756_3
    have Tw756_0:=hid (fw756 _ _ (by omega) Tw755_0.out)
    have Tw756_1:=hid (fw756 _ _ (by omega) Tw755_1.out)
    have Tw756_2:=hid (fw756 _ _ (by omega) Tw755_2.out)
    clear fw756
    rw [hw756]
    clear hw756
    refine hK2.out _ _ Kw756.out (fun hHeld2 => ?_)
    clear hK2 K2
    try simp only [pu]
    refine wpAnyH_ready (rs:=[17]) (by kernel_rfl) (by simp) ?_
    refine AllReadyH.cons (i:=17) rfl (fun K2 hK2 => ?_) AllReadyH.nil
    rw [if_pos (by rfl)]
    refine wp_store_row 39 _ _ rfl g753 vb rfl rfl 39 _ Tw756_2.out Ivb.out (by rw [Zvb.out];rfl) Ovb.out ?_
    obtain ⟨w757,hw757⟩:∃ x,w756.setRow g753 vb = x:=⟨_,rfl⟩
    obtain ⟨Kw757,Tw757_2,fw757⟩:=st_row Kw756.out hw757 (fun h => absurd h (by omega)) Tw756_2.out
    have Kw757:=hid Kw757
    have Tw757_2:=hid Tw757_2
    have Tw757_0:=hid (fw757 _ _ (by omega) Tw756_0.out)
    have Tw757_1:=hid (fw757 _ _ (by omega) Tw756_1.out)
    have Tw757_3:=hid (fw757 _ _ (by omega) Tw756_3.out)
    clear fw757
    rw [hw757]
    clear hw757
    refine hK2.out _ _ Kw757.out (fun hHeld2 => ?_)
    clear hK2 K2
    try simp only [pu]
    refine wpAnyH_done (by kernel_rfl) ?_ _
    go_wp2_with fail
    go_meet
    exact ⟨_,_,rfl,rfl,hid ⟨qw755,qw753,Kw757.out,Tw757_3.out,Tw757_2.out,Tw757_0.out,Tw757_1.out⟩⟩
   refine AllReadyH.cons (i:=14) rfl (fun K2 hK2 => ?_) ?more76
   ·skip
    go_simp
    obtain ⟨w758,hw758⟩:∃ x,(w753.alloc (.cells (List.replicate 32 (Value.int .u8 0)).toArray 39)) = x:=⟨_,rfl⟩
    obtain ⟨g758,hg758⟩:∃ x,w753.heap.size = x:=⟨_,rfl⟩
    obtain ⟨Kw758,Tw758_3,qw758,fw758⟩:=st_alloc Kw753.out hw758 hg758
    simp only [List.replicate] at hw758;rw [hw758,hg758];clear hw758 hg758
    have Kw758:=hid Kw758
    have Tw758_3:=hid Tw758_3
    obtain ⟨Tw758_0,dw758_0⟩:=fw758 _ _ Tw753_0.out
    have Tw758_0:=hid Tw758_0
    obtain ⟨Tw758_1,dw758_1⟩:=fw758 _ _ Tw753_1.out
    have Tw758_1:=hid Tw758_1
    obtain ⟨Tw758_2,dw758_2⟩:=fw758 _ _ Tw753_2.out
    have Tw758_2:=hid Tw758_2
    clear fw758
    refine hK2.out _ _ Kw758.out (fun hHeld2 => ?_)
    clear hK2 K2
    try simp only [pu]
    refine wpAnyH_ready (rs:=[10]) (by kernel_rfl) (by simp) ?_
    refine AllReadyH.cons (i:=10) rfl (fun K2 hK2 => ?_) AllReadyH.nil
    go_simp
    go_at_call 82
    refine (HSUB.out w758 Kw758.out).mono ?_
    rintro ev w759 ⟨rfl,bw759⟩
    try go_wp2_with fail
    obtain ⟨Kw759,fw759⟩:=st_call Kw758.out bw759
    have Kw759:=hid Kw759
    have Tw759_0:=hid (fw759 _ _ Tw758_0.out)
    have Tw759_1:=hid (fw759 _ _ Tw758_1.out)
    have Tw759_2:=hid (fw759 _ _ Tw758_2.out)
    have Tw759_3:=hid (fw759 _ _ Tw758_3.out)
    clear bw759 fw759
    refine hK2.out _ _ Kw759.out (fun hHeld2 => ?_)
    clear hK2 K2
    try simp only [pu]
    refine tk (i:=11) (v:=?v77) rfl ?y77 ?r77
    case y77 => (intro w hSw;(try dsimp only at hSw);go_simp;(try with_reducible rfl))
    try simp only [pu]
    refine tk (i:=12) (v:=?v78) rfl ?y78 ?r78
    case y78 => (intro w hSw;(try dsimp only at hSw);go_simp;(try with_reducible rfl))
    try simp only [pu]
    refine tk (i:=13) (v:=?v79) rfl ?y79 ?r79
    case y79 => (intro w hSw;(try dsimp only at hSw);go_simp;(try with_reducible rfl))
    try simp only [pu]
    refine wpAnyH_ready (rs:=[16]) (by kernel_rfl) (by simp) ?_
    refine AllReadyH.cons (i:=16) rfl (fun K2 hK2 => ?_) AllReadyH.nil
    rw [if_pos (by rfl)]
    refine wp_store_row 39 _ _ rfl g758 va rfl rfl 39 _ Tw759_3.out Iva.out (by rw [Zva.out];rfl) Ova.out ?_
    obtain ⟨w760,hw760⟩:∃ x,w759.setRow g758 va = x:=⟨_,rfl⟩
    obtain ⟨Kw760,Tw760_3,fw760⟩:=st_row Kw759.out hw760 (fun h => absurd h (by omega)) Tw759_3.out
    have Kw760:=hid Kw760
    have Tw760_3:=hid Tw760_3
    have Tw760_0:=hid (fw760 _ _ (by omega) Tw759_0.out)
    have Tw760_1:=hid (fw760 _ _ (by omega) Tw759_1.out)
    have Tw760_2:=hid (fw760 _ _ (by omega) Tw759_2.out)
    clear fw760
    rw [hw760]
    clear hw760
    refine hK2.out _ _ Kw760.out (fun hHeld2 => ?_)
    clear hK2 K2
    try simp only [pu]
    refine wpAnyH_ready (rs:=[17]) (by kernel_rfl) (by simp) ?_
    refine AllReadyH.cons (i:=17) rfl (fun K2 hK2 => ?_) AllReadyH.nil
    rw [if_pos (by rfl)]
    refine wp_store_row 39 _ _ rfl g753 vb rfl rfl 39 _ Tw760_2.out Ivb.out (by rw [Zvb.out];rfl) Ovb.out ?_
    obtain ⟨w761,hw761⟩:∃ x,w760.setRow g753 vb = x:=⟨_,rfl⟩
    obtain ⟨Kw761,Tw761_2,fw761⟩:=st_row Kw760.out hw761 (fun h => absurd h (by omega)) Tw760_2.out
    have Kw761:=hid Kw761
    have Tw761_2:=hid Tw761_2
    have Tw761_0:=hid (fw761 _ _ (by omega) Tw760_0.out)
    have Tw761_1:=hid (fw761 _ _ (by omega) Tw760_1.out)
    have Tw761_3:=hid (fw761 _ _ (by omega) Tw760_3.out)
    clear fw761
    rw [hw761]
    clear hw761
    refine hK2.out _ _ Kw761.out (fun hHeld2 => ?_)
    clear hK2 K2
    try simp only [pu]
    refine wpAnyH_done (by kernel_rfl) ?_ _
    go_wp2_with fail
    go_meet
    exact ⟨_,_,rfl,rfl,hid ⟨qw758,qw753,Kw761.out,Tw761_3.out,Tw761_2.out,Tw761_0.out,Tw761_1.out⟩⟩
   exact AllReadyH.nil
  exact AllReadyH.nil
 case rest =>
  obtain ⟨g1,g2,rfl,rfl,H8⟩:=hcut
  have C1:Hid (wc.heap[g1]? = some (.cells va 39 (0,0))):=hid H8.out.2.2.2.1
  have C2:Hid (wc.heap[g2]? = some (.cells vb 39 (0,0))):=hid H8.out.2.2.2.2.1
  have RAc:Hid (wc.heap[(w.heap.size+1)]? = some (.cells (List.replicate 32 (Value.int .u8 0)).toArray 39 (0,0))):=hid H8.out.2.2.2.2.2.1
  have RBc:Hid (wc.heap[(w.heap.size+1+1)]? = some (.cells (List.replicate 32 (Value.int .u8 0)).toArray 39 (0,0))):=hid H8.out.2.2.2.2.2.2
  have KC:Hid (But (fun k => k = w.heap.size+1 ∨ k = w.heap.size+1+1) wv wc):=hid H8.out.2.2.1
  have GG:Hid (w.heap.size+1+1 < g1 ∧ w.heap.size+1+1 < g2):=hid ⟨by have:=H8.out.1;have:=HSV.out;omega,by have:=H8.out.2.1;have:=HSV.out;omega⟩
  have KQc:Hid (∀ w',But (fun k => k = w.heap.size+1 ∨ k = w.heap.size+1+1) wc w' → w'.rangeAt g (o+m * 32) pq):=hid (fun w' h => KQ.out w' (KC.out.trans h))
  go_upto_region 11 with fail
  refine wp_region_held_drew (S:=But (fun k => k = w.heap.size+1 ∨ k = w.heap.size+1+1) wc) (by kernel_rfl) (But.refl _ _).drew (fun hHeld => ?_)
  refine tk (i:=0) (v:=?v80) rfl ?y80 ?r80
  case y80 => (intro w hSw;(try dsimp only at hSw);go_simp;(try with_reducible rfl))
  try simp only [pu]
  refine tk (i:=1) (v:=?v81) rfl ?y81 ?r81
  case y81 => (intro w hSw;(try dsimp only at hSw);go_simp;(try with_reducible rfl))
  try simp only [pu]
  refine tk (i:=2) (v:=?v82) rfl ?y82 ?r82
  case y82 => (intro w hSw;(try dsimp only at hSw);go_simp;(try with_reducible rfl))
  try simp only [pu]
  refine tw (i:=3) rfl (yieldsIf_load_mid (by rfl) 39 _ (by rfl) g (o+m * 32) (by first | rfl | simp) pq _ (fun w h => KQc.out w h) Tryz.underlying39 (by rfl) HIQ.out) ?_
  try simp only [pu]
  refine tw (i:=4) rfl (yieldsIf_load_row (by rfl) 39 _ (by rfl) g1 (by rfl) 39 va (0,0) _ (fun w h => (But.same h _ (Array.getElem?_eq_some_iff.1 C1.out).1 (by have:=GG.out;omega)).trans C1.out) Tryz.underlying39 rfl Iva.out) ?_
  try simp only [pu]
  refine tk (i:=6) (v:=?v85) rfl ?y85 ?r85
  case y85 => (intro w hSw;(try dsimp only at hSw);go_simp;(try with_reducible rfl))
  try simp only [pu]
  refine tk (i:=7) (v:=?v86) rfl ?y86 ?r86
  case y86 => (intro w hSw;(try dsimp only at hSw);go_simp;(try with_reducible rfl))
  try simp only [pu]
  refine tk (i:=8) (v:=?v87) rfl ?y87 ?r87
  case y87 => (intro w hSw;(try dsimp only at hSw);go_simp;(try with_reducible rfl))
  try simp only [pu]
  refine tw (i:=9) rfl (yieldsIf_load_mid (by rfl) 39 _ (by rfl) g (o+m * 32) (by first | rfl | simp) pq _ (fun w h => KQc.out w h) Tryz.underlying39 (by rfl) HIQ.out) ?_
  try simp only [pu]
  refine tw (i:=10) rfl (yieldsIf_load_row (by rfl) 39 _ (by rfl) g2 (by rfl) 39 vb (0,0) _ (fun w h => (But.same h _ (Array.getElem?_eq_some_iff.1 C2.out).1 (by have:=GG.out;omega)).trans C2.out) Tryz.underlying39 rfl Ivb.out) ?_
  try simp only [pu]
  refine wpAnyH_ready (rs:=[5]) (by kernel_rfl) (by simp) ?_
  refine AllReadyH.cons (i:=5) rfl (fun K2 hK2 => ?_) AllReadyH.nil
  go_simp
  go_at_call 85
  refine (HN1.out wc.drew).mono ?_
  rintro ev w762 ⟨rfl,bw762⟩
  try go_wp2_with fail
  obtain ⟨Kw762,fw762⟩:=st_call ((But.refl (fun k => k = w.heap.size+1 ∨ k = w.heap.size+1+1) wc).drew) bw762
  have Kw762:=hid Kw762
  have Tw762_0:=hid (fw762 _ _ (show wc.drew.heap[(w.heap.size+1)]? = _ from RAc.out))
  have Tw762_1:=hid (fw762 _ _ (show wc.drew.heap[(w.heap.size+1+1)]? = _ from RBc.out))
  clear bw762 fw762
  refine hK2.out _ _ Kw762.out (fun hHeld2 => ?_)
  clear hK2 K2
  try simp only [pu]
  refine wpAnyH_ready (rs:=[11]) (by kernel_rfl) (by simp) ?_
  refine AllReadyH.cons (i:=11) rfl (fun K2 hK2 => ?_) AllReadyH.nil
  go_simp
  go_at_call 85
  refine (HND.out w762).mono ?_
  rintro ev w763 ⟨rfl,bw763⟩
  try go_wp2_with fail
  obtain ⟨Kw763,fw763⟩:=st_call Kw762.out bw763
  have Kw763:=hid Kw763
  have Tw763_0:=hid (fw763 _ _ Tw762_0.out)
  have Tw763_1:=hid (fw763 _ _ Tw762_1.out)
  clear bw763 fw763
  refine hK2.out _ _ Kw763.out (fun hHeld2 => ?_)
  clear hK2 K2
  try simp only [pu]
  refine wpAnyH_ready (rs:=[12]) (by kernel_rfl) (by simp) ?_
  refine AllReadyH.cons (i:=12) rfl (fun K2 hK2 => ?_) AllReadyH.nil
  rw [if_pos (by rfl)]
  refine wp_store_row 39 _ _ rfl (w.heap.size+1) vx rfl rfl 39 _ Tw763_0.out Ivx.out (by rw [Zvx.out];rfl) Ovx.out ?_
  obtain ⟨w764,hw764⟩:∃ x,w763.setRow (w.heap.size+1) vx = x:=⟨_,rfl⟩
  obtain ⟨Kw764,Tw764_0,fw764⟩:=st_row Kw763.out hw764 (fun _ => .inl rfl) Tw763_0.out
  have Kw764:=hid Kw764
  have Tw764_0:=hid Tw764_0
  have Tw764_1:=hid (fw764 _ _ (by omega) Tw763_1.out)
  clear fw764
  rw [hw764]
  clear hw764
  refine hK2.out _ _ Kw764.out (fun hHeld2 => ?_)
  clear hK2 K2
  try simp only [pu]
  refine wpAnyH_ready (rs:=[13]) (by kernel_rfl) (by simp) ?_
  refine AllReadyH.cons (i:=13) rfl (fun K2 hK2 => ?_) AllReadyH.nil
  rw [if_pos (by rfl)]
  refine wp_store_row 39 _ _ rfl (w.heap.size+1+1) vy rfl rfl 39 _ Tw764_1.out Ivy.out (by rw [Zvy.out];rfl) Ovy.out ?_
  obtain ⟨w765,hw765⟩:∃ x,w764.setRow (w.heap.size+1+1) vy = x:=⟨_,rfl⟩
  obtain ⟨Kw765,Tw765_1,fw765⟩:=st_row Kw764.out hw765 (fun _ => .inr rfl) Tw764_1.out
  have Kw765:=hid Kw765
  have Tw765_1:=hid Tw765_1
  have Tw765_0:=hid (fw765 _ _ (by omega) Tw764_0.out)
  clear fw765
  rw [hw765]
  clear hw765
  refine hK2.out _ _ Kw765.out (fun hHeld2 => ?_)
  clear hK2 K2
  try simp only [pu]
  refine wpAnyH_done (by kernel_rfl) ?_ _
  go_wp2
  refine bodyPost_ret (v:=.tuple #[.agg vx,.agg vy]) (results_row_row rfl _ _ (w.heap.size+1) (w.heap.size+1+1) 39 39 vx vy (0,0) (0,0) _ _ rfl Tw765_0.out rfl Tw765_1.out Tryz.underlying39 rfl Ivx.out Tryz.underlying39 rfl Ivy.out) rfl ⟨rfl,HB.out.trans (But.to_below (KC.out.trans Kw765.out) HB.out.size (fun k hk q => by omega))⟩
theorem subP_len {b0:List UInt8} (hb0:b0.length = 32) (old:Int):∀ (f:Nat) (b e:Int) (P:List (List UInt8)),0 ≤ b → b < old → old ≤ e → e - b ≤ pow2 f → P.length = (proofL f old b e).length → H32 P → (subP b0 f old b e P).1.length = 32 ∧ (subP b0 f old b e P).2.length = 32:=by
 intro f
 have base:∀ (f:Nat) (b:Int) (P:List (List UInt8)),0 ≤ b → P.length = (proofL f old b old).length → H32 P → (subP b0 f old b old P).1.length = 32 ∧ (subP b0 f old b old P).2.length = 32:=by
  intro f b P h0 hl h32
  rw [subP_end]
  rw [proofL_end] at hl
  by_cases hb:b = 0
  ·rw [if_pos hb];exact ⟨hb0,hb0⟩
  ·rw [if_neg hb]
   rw [if_pos (by omega)] at hl
   match P,hl with
   | [x],_ => exact ⟨h32 x (by simp),h32 x (by simp)⟩
 induction f with
 | zero =>
  intro b e P h0 h1 h2 hp hl h32
  rw [pow2_zero] at hp
  obtain rfl:e = old:=by omega
  exact base 0 b P h0 hl h32
 | succ f ih =>
  intro b e P h0 h1 h2 hp hl h32
  by_cases he:e = old
  ·subst he;exact base (f+1) b P h0 hl h32
  ·have hb:=blwI_bd (n:=e - b) (by omega)
   have hk:=blwI_le_pow (n:=e - b) (f:=f) (by omega) hp
   have hps:=pow2_succ f
   rw [proofL,if_neg he] at hl
   rw [subP,if_neg he]
   by_cases hx:old ≤ b+blwI (e - b)
   ·rw [if_pos hx] at hl ⊢
    rw [List.length_append] at hl
    obtain ⟨P',q,rfl,hl'⟩:=snoc_of (n:=(proofL f old b (b+blwI (e - b))).length) hl
    rw [List.dropLast_concat]
    exact ⟨(ih b _ P' h0 h1 hx (by omega) hl' (fun x hx => h32 x (by simp [hx]))).1,nodeH_length _ _⟩
   ·rw [if_neg hx] at hl ⊢
    exact ⟨nodeH_length _ _,nodeH_length _ _⟩
theorem sub18 (old:Int) (b0:List UInt8) (hb0:b0.length = 32):∀ (f:Nat) (b e:Int) (n c:Nat) (A:Option Addr) (P:List (List UInt8)) (w:World),0 ≤ b → b < old → old ≤ e → e ≤ 9223372036854775808 → e - b ≤ pow2 f → f ≤ 64 → P.length = (proofL f old b e).length → HIn w A n c P →
 Calls Tryz.prog 82 #[.int .u64 (old - b),.int .u64 (e - b),.bool (decide (b = 0)),hv b0,.slice A n c] w fun ev w' => ev = .returned (.tuple #[hv (subP b0 f old b e P).1,hv (subP b0 f old b e P).2]) ∧ Below w.heap.size w w':=by
 have base:∀ (f:Nat) (b:Int) (n c:Nat) (A:Option Addr) (P:List (List UInt8)) (w:World),0 ≤ b → b < old → P.length = (proofL f old b old).length → HIn w A n c P →
  Calls Tryz.prog 82 #[.int .u64 (old - b),.int .u64 (old - b),.bool (decide (b = 0)),hv b0,.slice A n c] w fun ev w' => ev = .returned (.tuple #[hv (subP b0 f old b old P).1,hv (subP b0 f old b old P).2]) ∧ Below w.heap.size w w':=by
  intro f b n c A P w h0 h1 hl hI
  rw [subP_end]
  rw [proofL_end] at hl
  by_cases hb:b = 0
  ·rw [if_pos hb,decide_eq_true hb]
   exact sub18_whole old b0 hb0 b old n c A w rfl h1
  ·rw [if_neg hb,decide_eq_false hb]
   rw [if_pos (by omega)] at hl
   match P,hl,hI with
   | [x],_,hI => exact sub18_first old b0 hb0 b old n c A x w rfl h1 hI
 intro f
 induction f with
 | zero =>
  intro b e n c A P w h0 h1 h2 h3 hp hf hl hI
  rw [pow2_zero] at hp
  obtain rfl:e = old:=by omega
  exact base 0 b n c A P w h0 h1 hl hI
 | succ f ih =>
  intro b e n c A P w h0 h1 h2 h3 hp hf hl hI
  by_cases he:e = old
  ·subst he;exact base (f+1) b n c A P w h0 h1 hl hI
  ·have hb:=blwI_bd (n:=e - b) (by omega)
   have hk:=blwI_le_pow (n:=e - b) (f:=f) (by omega) hp
   have hps:=pow2_succ f
   have hl0:=hl
   rw [proofL,if_neg he] at hl
   rw [subP,if_neg he]
   obtain ⟨k,hkk⟩:∃ k,blwI (e - b) = k:=⟨_,rfl⟩
   rw [hkk] at hb hk hl ⊢
   have fin:∀ (bb ee:Int) (P':List (List UInt8)) (q:List UInt8),P = P' ++ [q] → P'.length = (proofL f old bb ee).length → ∃ m g o,P'.length = m ∧ n = m+1 ∧ A = some ⟨g,o,none⟩ ∧ m ≤ 64 ∧ m < c ∧ w.rangeAt g (o+m * 32) (bytesV q) ∧ g < w.heap.size ∧ q.length = 32 ∧ HIn w (some ⟨g,o,none⟩) m c P':=by
    intro bb ee P' q hP hl'
    subst hP
    have hm1:(P' ++ [q]).length = n:=hI.2.1
    rw [List.length_append] at hm1
    obtain ⟨m,hm⟩:∃ m,P'.length = m:=⟨_,rfl⟩
    have hnm:n = m+1:=by simp at hm1;omega
    have hI1:=hin_take hI (k:=m) (by omega)
    rw [List.take_append_of_le_length (by omega),List.take_of_length_le (by omega)] at hI1
    obtain ⟨g,o,rfl,gl,rq,ql⟩:=hI.row (k:=m) (x:=q) (by rw [List.getElem?_append_right (by omega),hm,Nat.sub_self];rfl)
    have h64:=proofL_len f old bb ee
    exact ⟨m,g,o,hm,hnm,rfl,by omega,by have:=hI.2.2.1;omega,rq,gl,ql,hI1⟩
   by_cases hx:old ≤ b+k
   ·rw [if_pos hx] at hl ⊢
    rw [List.length_append] at hl
    obtain ⟨P',q,hP,hl'⟩:=snoc_of (n:=(proofL f old b (b+k)).length) hl
    obtain ⟨m,g,o,hm,rfl,rfl,r1,r2,r3,r4,r5,r6⟩:=fin b (b+k) P' q hP hl'
    subst hP
    rw [List.dropLast_concat,last_snoc]
    have ll:=subP_len hb0 old f b (b+k) P' h0 h1 hx (by omega) hl' r6.1
    exact sub18_left old b0 hb0 (old - b) (e - b) k (decide (b = 0)) m c g o q _ _ w (by omega) (by omega) (by omega) hkk (by omega) (by omega) r1 r2 r3 r4 r5 ll.1 ll.2 (fun w' hw => by
     have:=ih b (b+k) m c (some ⟨g,o,none⟩) P' w' h0 h1 hx (by omega) (by omega) (by omega) hl' (r6.below hw)
     rwa [show b+k - b = k by omega] at this)
   ·rw [if_neg hx] at hl ⊢
    rw [List.length_append] at hl
    obtain ⟨P',q,hP,hl'⟩:=snoc_of (n:=(proofL f old (b+k) e).length) hl
    obtain ⟨m,g,o,hm,rfl,rfl,r1,r2,r3,r4,r5,r6⟩:=fin (b+k) e P' q hP hl'
    subst hP
    rw [List.dropLast_concat,last_snoc]
    have ll:=subP_len hb0 old f (b+k) e P' (by omega) (by omega) h2 (by omega) hl' r6.1
    exact sub18_right old b0 hb0 (old - b) (e - b) k (decide (b = 0)) m c g o q _ _ w (by omega) (by omega) (by omega) hkk (by omega) (by omega) r1 r2 r3 r4 r5 ll.1 ll.2 (fun w' hw => by
     have:=ih (b+k) e m c (some ⟨g,o,none⟩) P' w' (by omega) (by omega) h2 h3 (by omega) (by omega) hl' (r6.below hw)
     rw [decide_eq_false (by omega)] at this
     rwa [show old - (b+k) = old - b - k by omega,show e - (b+k) = e - b - k by omega] at this)
/- cartularyref18.Consistency: the fault. No condition. -/
theorem cons18_range0 (old sz:Int) (b0 b1:List UInt8) (hb0:b0.length = 32) (hb1:b1.length = 32) (P:List (List UInt8)) (A:Option Addr) (n c:Nat) (w:World) (ho:0 ≤ old) (ho2:old < 18446744073709551616) (hs0:0 ≤ sz) (hsz:sz ≤ 9223372036854775808) (hI:HIn w A n c P) (h1:old = 0) :
 Calls Tryz.prog 44 #[.int .u64 old,.int .u64 sz,hv b0,hv b1,.slice A n c] w fun ev w' => ev = .returned (faultV 5) ∧ Below w.heap.size w w':=by
 obtain ⟨vl,evl,Hvl,Zvl,Ivl,Ovl⟩:=row_of b0 hb0
 obtain ⟨vt,evt,Hvt,Zvt,Ivt,Ovt⟩:=row_of b1 hb1
 obtain ⟨vf,evf,HVF,Zvf,Ivf,Ovf⟩:=fault_of 5
 obtain ⟨wv,hwv⟩:∃ y,(((w.alloc (.cells vl 39)).alloc (.cells vt 39)).alloc (.cells #[.int .i64 0,.int .i64 0] 52)) = y:=⟨_,rfl⟩
 have HB:Hid (Below w.heap.size w wv):=hid (by rw [← hwv];exact ((((Below.refl _ _).alloc (by simp;try omega) _).alloc (by simp;try omega) _).alloc (by simp;try omega) _))
 have HSV:Hid (wv.heap.size = w.heap.size+1+1+1):=hid (by rw [← hwv];simp)
 have RL:Hid (wv.heap[w.heap.size]? = some (.cells vl 39 (0,0))):=hid (by rw [← hwv];simp only [World.alloc,Array.getElem?_push,Array.size_push];(repeat' split) <;> first | rfl | (exfalso;omega) | simp_all)
 have RT:Hid (wv.heap[(w.heap.size+1)]? = some (.cells vt 39 (0,0))):=hid (by rw [← hwv];simp only [World.alloc,Array.getElem?_push,Array.size_push];(repeat' split) <;> first | rfl | (exfalso;omega) | simp_all)
 have RF:Hid (wv.heap[(w.heap.size+1+1)]? = some (.cells #[.int .i64 0,.int .i64 0] 52 (0,0))):=hid (by rw [← hwv];simp only [World.alloc,Array.getElem?_push,Array.size_push];(repeat' split) <;> first | rfl | (exfalso;omega) | simp_all)
 have HWV:=hid hwv
 have q1:decide (9223372036854775808 < sz) = false:=by simp;omega
 subst h1
 have PLAIN:Hid (∀ w,Calls Tryz.prog 47 #[.int .i64 5] w fun ev w' => ev = .returned (.agg vf) ∧ Below w.heap.size w w'):=hid (fun w => by rw [← evf];exact plain18 5 (by decide) (by decide) w)
 rw [evl,evt,evf]
 clear hwv evl evt evf hI hs0 hb0 hb1
 go_enter Tryz.func44,Tryz.ntmps44
 go_upto_region 1 with fail
 rw [HWV.out]
 go_wp2_with fail
 have RF0:=RF
 refine (PLAIN.out wv).mono ?_
 rintro ev w3 ⟨rfl,b3⟩
 have R3:Hid (w3.heap[(w.heap.size+1+1)]? = some (.cells #[.int .i64 0,.int .i64 0] 52 (0,0))):=hid ((b3.block _ (Array.getElem?_eq_some_iff.1 RF0.out).1).trans RF0.out)
 have HB3:Hid (Below w.heap.size w w3):=hid (HB.out.trans (b3.mono HB.out.size))
 clear b3
 go_wp2_with (refine wpList_store_row rfl 52 _ _ rfl (w.heap.size+1+1) vf rfl rfl 52 _ R3.out Ivf.out (by rw [Zvf.out];rfl) Ovf.out ?_)
 refine bodyPost_ret (v:=.agg vf) (results_cell_row rfl _ _ (w.heap.size+1+1) 52 vf (0,0) _ rfl (setRow_heap _ _ _ _ _ _ R3.out) Tryz.underlying52 rfl Ivf.out) rfl ⟨rfl,below_setRow HB3.out _ _ (by omega)⟩
theorem cons18_range1 (old sz:Int) (b0 b1:List UInt8) (hb0:b0.length = 32) (hb1:b1.length = 32) (P:List (List UInt8)) (A:Option Addr) (n c:Nat) (w:World) (ho:0 ≤ old) (ho2:old < 18446744073709551616) (hs0:0 ≤ sz) (hsz:sz ≤ 9223372036854775808) (hI:HIn w A n c P) (h0:old ≠ 0) (h1:sz < old) :
 Calls Tryz.prog 44 #[.int .u64 old,.int .u64 sz,hv b0,hv b1,.slice A n c] w fun ev w' => ev = .returned (faultV 5) ∧ Below w.heap.size w w':=by
 obtain ⟨vl,evl,Hvl,Zvl,Ivl,Ovl⟩:=row_of b0 hb0
 obtain ⟨vt,evt,Hvt,Zvt,Ivt,Ovt⟩:=row_of b1 hb1
 obtain ⟨vf,evf,HVF,Zvf,Ivf,Ovf⟩:=fault_of 5
 obtain ⟨wv,hwv⟩:∃ y,(((w.alloc (.cells vl 39)).alloc (.cells vt 39)).alloc (.cells #[.int .i64 0,.int .i64 0] 52)) = y:=⟨_,rfl⟩
 have HB:Hid (Below w.heap.size w wv):=hid (by rw [← hwv];exact ((((Below.refl _ _).alloc (by simp;try omega) _).alloc (by simp;try omega) _).alloc (by simp;try omega) _))
 have HSV:Hid (wv.heap.size = w.heap.size+1+1+1):=hid (by rw [← hwv];simp)
 have RL:Hid (wv.heap[w.heap.size]? = some (.cells vl 39 (0,0))):=hid (by rw [← hwv];simp only [World.alloc,Array.getElem?_push,Array.size_push];(repeat' split) <;> first | rfl | (exfalso;omega) | simp_all)
 have RT:Hid (wv.heap[(w.heap.size+1)]? = some (.cells vt 39 (0,0))):=hid (by rw [← hwv];simp only [World.alloc,Array.getElem?_push,Array.size_push];(repeat' split) <;> first | rfl | (exfalso;omega) | simp_all)
 have RF:Hid (wv.heap[(w.heap.size+1+1)]? = some (.cells #[.int .i64 0,.int .i64 0] 52 (0,0))):=hid (by rw [← hwv];simp only [World.alloc,Array.getElem?_push,Array.size_push];(repeat' split) <;> first | rfl | (exfalso;omega) | simp_all)
 have HWV:=hid hwv
 have q1:decide (9223372036854775808 < sz) = false:=by simp;omega
 have q2:(old == 0) = false:=by simp;exact h0
 have q3:decide (sz < old) = true:=by simp;omega
 have PLAIN:Hid (∀ w,Calls Tryz.prog 47 #[.int .i64 5] w fun ev w' => ev = .returned (.agg vf) ∧ Below w.heap.size w w'):=hid (fun w => by rw [← evf];exact plain18 5 (by decide) (by decide) w)
 rw [evl,evt,evf]
 clear hwv evl evt evf hI hs0 hb0 hb1
 go_enter Tryz.func44,Tryz.ntmps44
 go_upto_region 1 with fail
 rw [HWV.out]
 go_wp2_with fail
 have RF0:=RF
 refine (PLAIN.out wv).mono ?_
 rintro ev w3 ⟨rfl,b3⟩
 have R3:Hid (w3.heap[(w.heap.size+1+1)]? = some (.cells #[.int .i64 0,.int .i64 0] 52 (0,0))):=hid ((b3.block _ (Array.getElem?_eq_some_iff.1 RF0.out).1).trans RF0.out)
 have HB3:Hid (Below w.heap.size w w3):=hid (HB.out.trans (b3.mono HB.out.size))
 clear b3
 go_wp2_with (refine wpList_store_row rfl 52 _ _ rfl (w.heap.size+1+1) vf rfl rfl 52 _ R3.out Ivf.out (by rw [Zvf.out];rfl) Ovf.out ?_)
 refine bodyPost_ret (v:=.agg vf) (results_cell_row rfl _ _ (w.heap.size+1+1) 52 vf (0,0) _ rfl (setRow_heap _ _ _ _ _ _ R3.out) Tryz.underlying52 rfl Ivf.out) rfl ⟨rfl,below_setRow HB3.out _ _ (by omega)⟩
theorem cons18_len (old sz:Int) (b0 b1:List UInt8) (hb0:b0.length = 32) (hb1:b1.length = 32) (P:List (List UInt8)) (A:Option Addr) (n c:Nat) (w:World) (ho:0 ≤ old) (ho2:old < 18446744073709551616) (hs0:0 ≤ sz) (hsz:sz ≤ 9223372036854775808) (hI:HIn w A n c P) (h0:0 < old) (h1:old ≤ sz) (hl:P.length ≠ (proofL 64 old 0 sz).length) :
 Calls Tryz.prog 44 #[.int .u64 old,.int .u64 sz,hv b0,hv b1,.slice A n c] w fun ev w' => ev = .returned (faultV 10) ∧ Below w.heap.size w w':=by
 obtain ⟨vl,evl,Hvl,Zvl,Ivl,Ovl⟩:=row_of b0 hb0
 obtain ⟨vt,evt,Hvt,Zvt,Ivt,Ovt⟩:=row_of b1 hb1
 obtain ⟨vf,evf,HVF,Zvf,Ivf,Ovf⟩:=fault_of 10
 obtain ⟨wv,hwv⟩:∃ y,(((w.alloc (.cells vl 39)).alloc (.cells vt 39)).alloc (.cells #[.int .i64 0,.int .i64 0] 52)) = y:=⟨_,rfl⟩
 have HB:Hid (Below w.heap.size w wv):=hid (by rw [← hwv];exact ((((Below.refl _ _).alloc (by simp;try omega) _).alloc (by simp;try omega) _).alloc (by simp;try omega) _))
 have HSV:Hid (wv.heap.size = w.heap.size+1+1+1):=hid (by rw [← hwv];simp)
 have RL:Hid (wv.heap[w.heap.size]? = some (.cells vl 39 (0,0))):=hid (by rw [← hwv];simp only [World.alloc,Array.getElem?_push,Array.size_push];(repeat' split) <;> first | rfl | (exfalso;omega) | simp_all)
 have RT:Hid (wv.heap[(w.heap.size+1)]? = some (.cells vt 39 (0,0))):=hid (by rw [← hwv];simp only [World.alloc,Array.getElem?_push,Array.size_push];(repeat' split) <;> first | rfl | (exfalso;omega) | simp_all)
 have RF:Hid (wv.heap[(w.heap.size+1+1)]? = some (.cells #[.int .i64 0,.int .i64 0] 52 (0,0))):=hid (by rw [← hwv];simp only [World.alloc,Array.getElem?_push,Array.size_push];(repeat' split) <;> first | rfl | (exfalso;omega) | simp_all)
 have HWV:=hid hwv
 have q1:decide (9223372036854775808 < sz) = false:=by simp;omega
 have q2:(old == 0) = false:=by simp;omega
 have q3:decide (sz < old) = false:=by simp;omega
 have q4:¬ sz < old:=by omega
 have HST:Hid (∀ w',Calls Tryz.prog 81 #[.int .u64 old,.int .u64 sz] w' fun ev w2 => ev = .returned (.int .i64 (proofL 64 old 0 sz).length) ∧ w' = w2):=hid (fun w' => steps18 old sz w' h0 h1 hsz)
 have hN64:=proofL_len 64 old 0 sz
 have hPn:=hI.2.1
 have hnn:n ≤ 9223372036854775807:=Nat.le_trans hI.2.2.1 hI.2.2.2.1
 obtain ⟨N,hN⟩:∃ N,(proofL 64 old 0 sz).length = N:=⟨_,rfl⟩
 rw [hN] at HST hN64 hl
 have q5:((n:Int) != (N:Int)) = true:=by simp;omega
 have PLAIN:Hid (∀ w,Calls Tryz.prog 47 #[.int .i64 10] w fun ev w' => ev = .returned (.agg vf) ∧ Below w.heap.size w w'):=hid (fun w => by rw [← evf];exact plain18 10 (by decide) (by decide) w)
 rw [evl,evt,evf]
 clear hwv evl evt evf hI hs0 hb0 hb1 hN hPn hl h0 h1
 go_enter Tryz.func44,Tryz.ntmps44
 go_upto_region 1 with fail
 rw [HWV.out]
 go_wp2_with fail
 refine (HST.out wv).mono ?_
 rintro ev w0 ⟨rfl,rfl⟩
 go_wp2_with fail
 have RF0:=RF
 refine (PLAIN.out wv).mono ?_
 rintro ev w3 ⟨rfl,b3⟩
 have R3:Hid (w3.heap[(w.heap.size+1+1)]? = some (.cells #[.int .i64 0,.int .i64 0] 52 (0,0))):=hid ((b3.block _ (Array.getElem?_eq_some_iff.1 RF0.out).1).trans RF0.out)
 have HB3:Hid (Below w.heap.size w w3):=hid (HB.out.trans (b3.mono HB.out.size))
 clear b3
 go_wp2_with (refine wpList_store_row rfl 52 _ _ rfl (w.heap.size+1+1) vf rfl rfl 52 _ R3.out Ivf.out (by rw [Zvf.out];rfl) Ovf.out ?_)
 refine bodyPost_ret (v:=.agg vf) (results_cell_row rfl _ _ (w.heap.size+1+1) 52 vf (0,0) _ rfl (setRow_heap _ _ _ _ _ _ R3.out) Tryz.underlying52 rfl Ivf.out) rfl ⟨rfl,below_setRow HB3.out _ _ (by omega)⟩
theorem cons18_eq (old sz:Int) (b0 b1:List UInt8) (hb0:b0.length = 32) (hb1:b1.length = 32) (P:List (List UInt8)) (A:Option Addr) (n c:Nat) (w:World) (ho:0 ≤ old) (ho2:old < 18446744073709551616) (hs0:0 ≤ sz) (hsz:sz ≤ 9223372036854775808) (hI:HIn w A n c P) (h0:0 < old) (h1:old ≤ sz) (hl:P.length = (proofL 64 old 0 sz).length) (hx:(subP b0 64 old 0 sz P).1 = b0) (hy:(subP b0 64 old 0 sz P).2 = b1) :
 Calls Tryz.prog 44 #[.int .u64 old,.int .u64 sz,hv b0,hv b1,.slice A n c] w fun ev w' => ev = .returned (faultV 0) ∧ Below w.heap.size w w':=by
 obtain ⟨vl,evl,Hvl,Zvl,Ivl,Ovl⟩:=row_of b0 hb0
 obtain ⟨vt,evt,Hvt,Zvt,Ivt,Ovt⟩:=row_of b1 hb1
 obtain ⟨vf,evf,HVF,Zvf,Ivf,Ovf⟩:=fault_of 0
 obtain ⟨wv,hwv⟩:∃ y,(((w.alloc (.cells vl 39)).alloc (.cells vt 39)).alloc (.cells #[.int .i64 0,.int .i64 0] 52)) = y:=⟨_,rfl⟩
 have HB:Hid (Below w.heap.size w wv):=hid (by rw [← hwv];exact ((((Below.refl _ _).alloc (by simp;try omega) _).alloc (by simp;try omega) _).alloc (by simp;try omega) _))
 have HSV:Hid (wv.heap.size = w.heap.size+1+1+1):=hid (by rw [← hwv];simp)
 have RL:Hid (wv.heap[w.heap.size]? = some (.cells vl 39 (0,0))):=hid (by rw [← hwv];simp only [World.alloc,Array.getElem?_push,Array.size_push];(repeat' split) <;> first | rfl | (exfalso;omega) | simp_all)
 have RT:Hid (wv.heap[(w.heap.size+1)]? = some (.cells vt 39 (0,0))):=hid (by rw [← hwv];simp only [World.alloc,Array.getElem?_push,Array.size_push];(repeat' split) <;> first | rfl | (exfalso;omega) | simp_all)
 have RF:Hid (wv.heap[(w.heap.size+1+1)]? = some (.cells #[.int .i64 0,.int .i64 0] 52 (0,0))):=hid (by rw [← hwv];simp only [World.alloc,Array.getElem?_push,Array.size_push];(repeat' split) <;> first | rfl | (exfalso;omega) | simp_all)
 have HWV:=hid hwv
 have q1:decide (9223372036854775808 < sz) = false:=by simp;omega
 have q2:(old == 0) = false:=by simp;omega
 have q3:decide (sz < old) = false:=by simp;omega
 have q4:¬ sz < old:=by omega
 have HST:Hid (∀ w',Calls Tryz.prog 81 #[.int .u64 old,.int .u64 sz] w' fun ev w2 => ev = .returned (.int .i64 (proofL 64 old 0 sz).length) ∧ w' = w2):=hid (fun w' => steps18 old sz w' h0 h1 hsz)
 have hN64:=proofL_len 64 old 0 sz
 have hPn:=hI.2.1
 have hnn:n ≤ 9223372036854775807:=Nat.le_trans hI.2.2.1 hI.2.2.2.1
 have ll:=subP_len hb0 old 64 0 sz P (by omega) h0 h1 (by rw [pow2_64];omega) hl hI.1
 obtain ⟨x,hx'⟩:∃ x,(subP b0 64 old 0 sz P).1 = x:=⟨_,rfl⟩
 obtain ⟨y,hy'⟩:∃ y,(subP b0 64 old 0 sz P).2 = y:=⟨_,rfl⟩
 obtain ⟨vx,evx,Hvx,Zvx,Ivx,Ovx⟩:=row_of x (by rw [← hx'];exact ll.1)
 obtain ⟨vy,evy,Hvy,Zvy,Ivy,Ovy⟩:=row_of y (by rw [← hy'];exact ll.2)
 have HSUB:Hid (∀ w',Below w.heap.size w w' → Calls Tryz.prog 82 #[.int .u64 old,.int .u64 sz,.bool true,.agg vl,.slice A n c] w' fun ev w2 => ev = .returned (.tuple #[.agg vx,.agg vy]) ∧ Below w'.heap.size w' w2):=hid (fun w' hb => by
  have:=sub18 old b0 hb0 64 0 sz n c A P w' (by omega) h0 h1 hsz (by rw [pow2_64];omega) (by omega) hl (hI.below hb)
  rw [Int.sub_zero,Int.sub_zero,hx',hy',evl,evx,evy] at this;exact this)
 have hqx:∀ w,(Op.equalIn 10000 39 (.agg vx) (.agg vl)).run Tryz.prog w = .ok true w:=fun w => by rw [eq_hash x b0 (by rw [← hx'];exact ll.1) hb0 vx vl evx evl w];rw [hx'] at hx;simp [hx]
 have hqy:∀ w,(Op.equalIn 10000 39 (.agg vy) (.agg vt)).run Tryz.prog w = .ok true w:=fun w => by rw [eq_hash y b1 (by rw [← hy'];exact ll.2) hb1 vy vt evy evt w];rw [hy'] at hy;simp [hy]
 obtain ⟨N,hN⟩:∃ N,(proofL 64 old 0 sz).length = N:=⟨_,rfl⟩
 rw [hN] at HST hN64 hl
 have q5:((n:Int) != (N:Int)) = false:=by simp;omega
 rw [evl,evt,evf]
 clear hwv evl evt evf hI hs0 hb0 hb1 hN hPn hl h0 h1 ll evx evy hx hx' hy' hy
 go_enter Tryz.func44,Tryz.ntmps44
 go_upto_region 1 with fail
 rw [HWV.out]
 go_wp2_with fail
 refine (HST.out wv).mono ?_
 rintro ev w0 ⟨rfl,rfl⟩
 go_wp2_with (refine wpList_load_row rfl 39 _ rfl w.heap.size rfl 39 vl (0,0) _ RL.out Tryz.underlying39 rfl Ivl.out ?_)
 refine (HSUB.out wv HB.out).mono ?_
 rintro ev w1 ⟨rfl,b1⟩
 have B1:=hid b1
 have HS1:Hid (w.heap.size+3 ≤ w1.heap.size):=hid (by have:=b1.size;have:=HSV.out;omega)
 clear b1
 go_upto_region 6 with (first
  | (refine wpList_store_row_any rfl 39 _ _ rfl w1.heap.size vx rfl rfl 39 _ ((((Below.refl _ (w1.alloc _)).alloc (Nat.le_refl _) _).block _ (by simp)).trans (heap_at _ _ _ rfl)) Ivx.out (by rw [Zvx.out];rfl) Ovx.out ?_;intro w2 hbA hgA hsA;have BA:=hid hbA;have GA:=hid hgA;have SA:Hid (w2.heap.size = w1.heap.size+1+1):=hid (hsA.trans (by simp));clear hbA hgA hsA)
  | (refine wpList_store_row_any rfl 39 _ _ rfl (w1.heap.size+1) vy rfl rfl 39 _ ((BA.out.same _ (by simp) (by omega)).trans (heap_at _ _ _ (by simp))) Ivy.out (by rw [Zvy.out];rfl) Ovy.out ?_;intro wy hbB hgB hsB;have BC:=hid hbB;have RG:=hid hgB;have SB:Hid (wy.heap.size = w1.heap.size+1+1):=hid (hsB.trans SA.out);clear hbB hgB hsB))
 have B1Y:Hid (Below w1.heap.size w1 wy):=hid ((((Below.refl _ _).alloc (Nat.le_refl _) _).alloc (by simp) _).trans (((BA.out.mono (T:=fun k => k = w1.heap.size ∨ k = w1.heap.size+1) (fun _ _ q => .inl q)).step BC.out (fun _ _ q => .inr q)).to_below (by simp;omega) (fun k hk q => by omega)))
 have RR:Hid (wy.heap[w1.heap.size]? = some (.cells vx 39 (0,0))):=hid ((BC.out.same _ (by have:=SA.out;omega) (by omega)).trans GA.out)
 have RLy:Hid (wy.heap[w.heap.size]? = some (.cells vl 39 (0,0))):=hid ((B1Y.out.block _ (by have:=HS1.out;omega)).trans ((B1.out.block _ (by have:=HSV.out;omega)).trans RL.out))
 have RTy:Hid (wy.heap[(w.heap.size+1)]? = some (.cells vt 39 (0,0))):=hid ((B1Y.out.block _ (by have:=HS1.out;omega)).trans ((B1.out.block _ (by have:=HSV.out;omega)).trans RT.out))
 have RF0:Hid (wy.heap[(w.heap.size+1+1)]? = some (.cells #[.int .i64 0,.int .i64 0] 52 (0,0))):=hid ((B1Y.out.block _ (by have:=HS1.out;omega)).trans ((B1.out.block _ (by have:=HSV.out;omega)).trans RF.out))
 have HBY:Hid (Below w.heap.size w wy):=hid ((HB.out.trans (B1.out.mono (by have:=HSV.out;omega))).trans (B1Y.out.mono (by have:=HS1.out;omega)))
 go_wp2_with (first
  | (refine wpList_load_row_g rfl 39 _ rfl w1.heap.size rfl 39 vx (0,0) _ RR.out Tryz.underlying39 rfl Ivx.out ?_)
  | (refine wpList_load_row_g rfl 39 _ rfl (w1.heap.size+1) rfl 39 vy (0,0) _ RG.out Tryz.underlying39 rfl Ivy.out ?_)
  | (refine wpList_load_row_g rfl 39 _ rfl w.heap.size rfl 39 vl (0,0) _ RLy.out Tryz.underlying39 rfl Ivl.out ?_)
  | (refine wpList_load_row_g rfl 39 _ rfl (w.heap.size+1) rfl 39 vt (0,0) _ RTy.out Tryz.underlying39 rfl Ivt.out ?_)
  | (refine wpList_store_row rfl 52 _ _ rfl (w.heap.size+1+1) vf rfl (by rw [HVF.out];rfl) 52 _ RF0.out Ivf.out (by rw [Zvf.out];rfl) Ovf.out ?_))
 refine bodyPost_ret (v:=.agg vf) (results_cell_row rfl _ _ (w.heap.size+1+1) 52 vf (0,0) _ rfl (setRow_heap _ _ _ _ _ _ RF0.out) Tryz.underlying52 rfl Ivf.out) rfl ⟨rfl,below_setRow HBY.out _ _ (by omega)⟩
theorem cons18_ne0 (old sz:Int) (b0 b1:List UInt8) (hb0:b0.length = 32) (hb1:b1.length = 32) (P:List (List UInt8)) (A:Option Addr) (n c:Nat) (w:World) (ho:0 ≤ old) (ho2:old < 18446744073709551616) (hs0:0 ≤ sz) (hsz:sz ≤ 9223372036854775808) (hI:HIn w A n c P) (h0:0 < old) (h1:old ≤ sz) (hl:P.length = (proofL 64 old 0 sz).length) (hx:(subP b0 64 old 0 sz P).1 ≠ b0) :
 Calls Tryz.prog 44 #[.int .u64 old,.int .u64 sz,hv b0,hv b1,.slice A n c] w fun ev w' => ev = .returned (faultV 10) ∧ Below w.heap.size w w':=by
 obtain ⟨vl,evl,Hvl,Zvl,Ivl,Ovl⟩:=row_of b0 hb0
 obtain ⟨vt,evt,Hvt,Zvt,Ivt,Ovt⟩:=row_of b1 hb1
 obtain ⟨vf,evf,HVF,Zvf,Ivf,Ovf⟩:=fault_of 10
 obtain ⟨wv,hwv⟩:∃ y,(((w.alloc (.cells vl 39)).alloc (.cells vt 39)).alloc (.cells #[.int .i64 0,.int .i64 0] 52)) = y:=⟨_,rfl⟩
 have HB:Hid (Below w.heap.size w wv):=hid (by rw [← hwv];exact ((((Below.refl _ _).alloc (by simp;try omega) _).alloc (by simp;try omega) _).alloc (by simp;try omega) _))
 have HSV:Hid (wv.heap.size = w.heap.size+1+1+1):=hid (by rw [← hwv];simp)
 have RL:Hid (wv.heap[w.heap.size]? = some (.cells vl 39 (0,0))):=hid (by rw [← hwv];simp only [World.alloc,Array.getElem?_push,Array.size_push];(repeat' split) <;> first | rfl | (exfalso;omega) | simp_all)
 have RT:Hid (wv.heap[(w.heap.size+1)]? = some (.cells vt 39 (0,0))):=hid (by rw [← hwv];simp only [World.alloc,Array.getElem?_push,Array.size_push];(repeat' split) <;> first | rfl | (exfalso;omega) | simp_all)
 have RF:Hid (wv.heap[(w.heap.size+1+1)]? = some (.cells #[.int .i64 0,.int .i64 0] 52 (0,0))):=hid (by rw [← hwv];simp only [World.alloc,Array.getElem?_push,Array.size_push];(repeat' split) <;> first | rfl | (exfalso;omega) | simp_all)
 have HWV:=hid hwv
 have q1:decide (9223372036854775808 < sz) = false:=by simp;omega
 have q2:(old == 0) = false:=by simp;omega
 have q3:decide (sz < old) = false:=by simp;omega
 have q4:¬ sz < old:=by omega
 have HST:Hid (∀ w',Calls Tryz.prog 81 #[.int .u64 old,.int .u64 sz] w' fun ev w2 => ev = .returned (.int .i64 (proofL 64 old 0 sz).length) ∧ w' = w2):=hid (fun w' => steps18 old sz w' h0 h1 hsz)
 have hN64:=proofL_len 64 old 0 sz
 have hPn:=hI.2.1
 have hnn:n ≤ 9223372036854775807:=Nat.le_trans hI.2.2.1 hI.2.2.2.1
 have ll:=subP_len hb0 old 64 0 sz P (by omega) h0 h1 (by rw [pow2_64];omega) hl hI.1
 obtain ⟨x,hx'⟩:∃ x,(subP b0 64 old 0 sz P).1 = x:=⟨_,rfl⟩
 obtain ⟨y,hy'⟩:∃ y,(subP b0 64 old 0 sz P).2 = y:=⟨_,rfl⟩
 obtain ⟨vx,evx,Hvx,Zvx,Ivx,Ovx⟩:=row_of x (by rw [← hx'];exact ll.1)
 obtain ⟨vy,evy,Hvy,Zvy,Ivy,Ovy⟩:=row_of y (by rw [← hy'];exact ll.2)
 have HSUB:Hid (∀ w',Below w.heap.size w w' → Calls Tryz.prog 82 #[.int .u64 old,.int .u64 sz,.bool true,.agg vl,.slice A n c] w' fun ev w2 => ev = .returned (.tuple #[.agg vx,.agg vy]) ∧ Below w'.heap.size w' w2):=hid (fun w' hb => by
  have:=sub18 old b0 hb0 64 0 sz n c A P w' (by omega) h0 h1 hsz (by rw [pow2_64];omega) (by omega) hl (hI.below hb)
  rw [Int.sub_zero,Int.sub_zero,hx',hy',evl,evx,evy] at this;exact this)
 have hqx:∀ w,(Op.equalIn 10000 39 (.agg vx) (.agg vl)).run Tryz.prog w = .ok false w:=fun w => by rw [eq_hash x b0 (by rw [← hx'];exact ll.1) hb0 vx vl evx evl w];rw [hx'] at hx;simp [hx]
 obtain ⟨N,hN⟩:∃ N,(proofL 64 old 0 sz).length = N:=⟨_,rfl⟩
 rw [hN] at HST hN64 hl
 have q5:((n:Int) != (N:Int)) = false:=by simp;omega
 have PLAIN:Hid (∀ w,Calls Tryz.prog 47 #[.int .i64 10] w fun ev w' => ev = .returned (.agg vf) ∧ Below w.heap.size w w'):=hid (fun w => by rw [← evf];exact plain18 10 (by decide) (by decide) w)
 rw [evl,evt,evf]
 clear hwv evl evt evf hI hs0 hb0 hb1 hN hPn hl h0 h1 ll evx evy hx hx' hy'
 go_enter Tryz.func44,Tryz.ntmps44
 go_upto_region 1 with fail
 rw [HWV.out]
 go_wp2_with fail
 refine (HST.out wv).mono ?_
 rintro ev w0 ⟨rfl,rfl⟩
 go_wp2_with (refine wpList_load_row rfl 39 _ rfl w.heap.size rfl 39 vl (0,0) _ RL.out Tryz.underlying39 rfl Ivl.out ?_)
 refine (HSUB.out wv HB.out).mono ?_
 rintro ev w1 ⟨rfl,b1⟩
 have B1:=hid b1
 have HS1:Hid (w.heap.size+3 ≤ w1.heap.size):=hid (by have:=b1.size;have:=HSV.out;omega)
 clear b1
 go_upto_region 6 with (first
  | (refine wpList_store_row_any rfl 39 _ _ rfl w1.heap.size vx rfl rfl 39 _ ((((Below.refl _ (w1.alloc _)).alloc (Nat.le_refl _) _).block _ (by simp)).trans (heap_at _ _ _ rfl)) Ivx.out (by rw [Zvx.out];rfl) Ovx.out ?_;intro w2 hbA hgA hsA;have BA:=hid hbA;have GA:=hid hgA;have SA:Hid (w2.heap.size = w1.heap.size+1+1):=hid (hsA.trans (by simp));clear hbA hgA hsA)
  | (refine wpList_store_row_any rfl 39 _ _ rfl (w1.heap.size+1) vy rfl rfl 39 _ ((BA.out.same _ (by simp) (by omega)).trans (heap_at _ _ _ (by simp))) Ivy.out (by rw [Zvy.out];rfl) Ovy.out ?_;intro wy hbB hgB hsB;have BC:=hid hbB;have RG:=hid hgB;have SB:Hid (wy.heap.size = w1.heap.size+1+1):=hid (hsB.trans SA.out);clear hbB hgB hsB))
 have B1Y:Hid (Below w1.heap.size w1 wy):=hid ((((Below.refl _ _).alloc (Nat.le_refl _) _).alloc (by simp) _).trans (((BA.out.mono (T:=fun k => k = w1.heap.size ∨ k = w1.heap.size+1) (fun _ _ q => .inl q)).step BC.out (fun _ _ q => .inr q)).to_below (by simp;omega) (fun k hk q => by omega)))
 have RR:Hid (wy.heap[w1.heap.size]? = some (.cells vx 39 (0,0))):=hid ((BC.out.same _ (by have:=SA.out;omega) (by omega)).trans GA.out)
 have RLy:Hid (wy.heap[w.heap.size]? = some (.cells vl 39 (0,0))):=hid ((B1Y.out.block _ (by have:=HS1.out;omega)).trans ((B1.out.block _ (by have:=HSV.out;omega)).trans RL.out))
 have RTy:Hid (wy.heap[(w.heap.size+1)]? = some (.cells vt 39 (0,0))):=hid ((B1Y.out.block _ (by have:=HS1.out;omega)).trans ((B1.out.block _ (by have:=HSV.out;omega)).trans RT.out))
 have RF0:Hid (wy.heap[(w.heap.size+1+1)]? = some (.cells #[.int .i64 0,.int .i64 0] 52 (0,0))):=hid ((B1Y.out.block _ (by have:=HS1.out;omega)).trans ((B1.out.block _ (by have:=HSV.out;omega)).trans RF.out))
 have HBY:Hid (Below w.heap.size w wy):=hid ((HB.out.trans (B1.out.mono (by have:=HSV.out;omega))).trans (B1Y.out.mono (by have:=HS1.out;omega)))
 go_wp2_with (first
  | (refine wpList_load_row_g rfl 39 _ rfl w1.heap.size rfl 39 vx (0,0) _ RR.out Tryz.underlying39 rfl Ivx.out ?_)
  | (refine wpList_load_row_g rfl 39 _ rfl (w1.heap.size+1) rfl 39 vy (0,0) _ RG.out Tryz.underlying39 rfl Ivy.out ?_)
  | (refine wpList_load_row_g rfl 39 _ rfl w.heap.size rfl 39 vl (0,0) _ RLy.out Tryz.underlying39 rfl Ivl.out ?_)
  | (refine wpList_load_row_g rfl 39 _ rfl (w.heap.size+1) rfl 39 vt (0,0) _ RTy.out Tryz.underlying39 rfl Ivt.out ?_))
 refine (PLAIN.out wy).mono ?_
 rintro ev w3 ⟨rfl,b3⟩
 have R3:Hid (w3.heap[(w.heap.size+1+1)]? = some (.cells #[.int .i64 0,.int .i64 0] 52 (0,0))):=hid ((b3.block _ (Array.getElem?_eq_some_iff.1 RF0.out).1).trans RF0.out)
 have HB3:Hid (Below w.heap.size w w3):=hid (HBY.out.trans (b3.mono HBY.out.size))
 clear b3
 go_wp2_with (refine wpList_store_row rfl 52 _ _ rfl (w.heap.size+1+1) vf rfl rfl 52 _ R3.out Ivf.out (by rw [Zvf.out];rfl) Ovf.out ?_)
 refine bodyPost_ret (v:=.agg vf) (results_cell_row rfl _ _ (w.heap.size+1+1) 52 vf (0,0) _ rfl (setRow_heap _ _ _ _ _ _ R3.out) Tryz.underlying52 rfl Ivf.out) rfl ⟨rfl,below_setRow HB3.out _ _ (by omega)⟩
theorem cons18_ne1 (old sz:Int) (b0 b1:List UInt8) (hb0:b0.length = 32) (hb1:b1.length = 32) (P:List (List UInt8)) (A:Option Addr) (n c:Nat) (w:World) (ho:0 ≤ old) (ho2:old < 18446744073709551616) (hs0:0 ≤ sz) (hsz:sz ≤ 9223372036854775808) (hI:HIn w A n c P) (h0:0 < old) (h1:old ≤ sz) (hl:P.length = (proofL 64 old 0 sz).length) (hx:(subP b0 64 old 0 sz P).1 = b0) (hy:(subP b0 64 old 0 sz P).2 ≠ b1) :
 Calls Tryz.prog 44 #[.int .u64 old,.int .u64 sz,hv b0,hv b1,.slice A n c] w fun ev w' => ev = .returned (faultV 10) ∧ Below w.heap.size w w':=by
 obtain ⟨vl,evl,Hvl,Zvl,Ivl,Ovl⟩:=row_of b0 hb0
 obtain ⟨vt,evt,Hvt,Zvt,Ivt,Ovt⟩:=row_of b1 hb1
 obtain ⟨vf,evf,HVF,Zvf,Ivf,Ovf⟩:=fault_of 10
 obtain ⟨wv,hwv⟩:∃ y,(((w.alloc (.cells vl 39)).alloc (.cells vt 39)).alloc (.cells #[.int .i64 0,.int .i64 0] 52)) = y:=⟨_,rfl⟩
 have HB:Hid (Below w.heap.size w wv):=hid (by rw [← hwv];exact ((((Below.refl _ _).alloc (by simp;try omega) _).alloc (by simp;try omega) _).alloc (by simp;try omega) _))
 have HSV:Hid (wv.heap.size = w.heap.size+1+1+1):=hid (by rw [← hwv];simp)
 have RL:Hid (wv.heap[w.heap.size]? = some (.cells vl 39 (0,0))):=hid (by rw [← hwv];simp only [World.alloc,Array.getElem?_push,Array.size_push];(repeat' split) <;> first | rfl | (exfalso;omega) | simp_all)
 have RT:Hid (wv.heap[(w.heap.size+1)]? = some (.cells vt 39 (0,0))):=hid (by rw [← hwv];simp only [World.alloc,Array.getElem?_push,Array.size_push];(repeat' split) <;> first | rfl | (exfalso;omega) | simp_all)
 have RF:Hid (wv.heap[(w.heap.size+1+1)]? = some (.cells #[.int .i64 0,.int .i64 0] 52 (0,0))):=hid (by rw [← hwv];simp only [World.alloc,Array.getElem?_push,Array.size_push];(repeat' split) <;> first | rfl | (exfalso;omega) | simp_all)
 have HWV:=hid hwv
 have q1:decide (9223372036854775808 < sz) = false:=by simp;omega
 have q2:(old == 0) = false:=by simp;omega
 have q3:decide (sz < old) = false:=by simp;omega
 have q4:¬ sz < old:=by omega
 have HST:Hid (∀ w',Calls Tryz.prog 81 #[.int .u64 old,.int .u64 sz] w' fun ev w2 => ev = .returned (.int .i64 (proofL 64 old 0 sz).length) ∧ w' = w2):=hid (fun w' => steps18 old sz w' h0 h1 hsz)
 have hN64:=proofL_len 64 old 0 sz
 have hPn:=hI.2.1
 have hnn:n ≤ 9223372036854775807:=Nat.le_trans hI.2.2.1 hI.2.2.2.1
 have ll:=subP_len hb0 old 64 0 sz P (by omega) h0 h1 (by rw [pow2_64];omega) hl hI.1
 obtain ⟨x,hx'⟩:∃ x,(subP b0 64 old 0 sz P).1 = x:=⟨_,rfl⟩
 obtain ⟨y,hy'⟩:∃ y,(subP b0 64 old 0 sz P).2 = y:=⟨_,rfl⟩
 obtain ⟨vx,evx,Hvx,Zvx,Ivx,Ovx⟩:=row_of x (by rw [← hx'];exact ll.1)
 obtain ⟨vy,evy,Hvy,Zvy,Ivy,Ovy⟩:=row_of y (by rw [← hy'];exact ll.2)
 have HSUB:Hid (∀ w',Below w.heap.size w w' → Calls Tryz.prog 82 #[.int .u64 old,.int .u64 sz,.bool true,.agg vl,.slice A n c] w' fun ev w2 => ev = .returned (.tuple #[.agg vx,.agg vy]) ∧ Below w'.heap.size w' w2):=hid (fun w' hb => by
  have:=sub18 old b0 hb0 64 0 sz n c A P w' (by omega) h0 h1 hsz (by rw [pow2_64];omega) (by omega) hl (hI.below hb)
  rw [Int.sub_zero,Int.sub_zero,hx',hy',evl,evx,evy] at this;exact this)
 have hqx:∀ w,(Op.equalIn 10000 39 (.agg vx) (.agg vl)).run Tryz.prog w = .ok true w:=fun w => by rw [eq_hash x b0 (by rw [← hx'];exact ll.1) hb0 vx vl evx evl w];rw [hx'] at hx;simp [hx]
 have hqy:∀ w,(Op.equalIn 10000 39 (.agg vy) (.agg vt)).run Tryz.prog w = .ok false w:=fun w => by rw [eq_hash y b1 (by rw [← hy'];exact ll.2) hb1 vy vt evy evt w];rw [hy'] at hy;simp [hy]
 obtain ⟨N,hN⟩:∃ N,(proofL 64 old 0 sz).length = N:=⟨_,rfl⟩
 rw [hN] at HST hN64 hl
 have q5:((n:Int) != (N:Int)) = false:=by simp;omega
 have PLAIN:Hid (∀ w,Calls Tryz.prog 47 #[.int .i64 10] w fun ev w' => ev = .returned (.agg vf) ∧ Below w.heap.size w w'):=hid (fun w => by rw [← evf];exact plain18 10 (by decide) (by decide) w)
 rw [evl,evt,evf]
 clear hwv evl evt evf hI hs0 hb0 hb1 hN hPn hl h0 h1 ll evx evy hx hx' hy' hy
 go_enter Tryz.func44,Tryz.ntmps44
 go_upto_region 1 with fail
 rw [HWV.out]
 go_wp2_with fail
 refine (HST.out wv).mono ?_
 rintro ev w0 ⟨rfl,rfl⟩
 go_wp2_with (refine wpList_load_row rfl 39 _ rfl w.heap.size rfl 39 vl (0,0) _ RL.out Tryz.underlying39 rfl Ivl.out ?_)
 refine (HSUB.out wv HB.out).mono ?_
 rintro ev w1 ⟨rfl,b1⟩
 have B1:=hid b1
 have HS1:Hid (w.heap.size+3 ≤ w1.heap.size):=hid (by have:=b1.size;have:=HSV.out;omega)
 clear b1
 go_upto_region 6 with (first
  | (refine wpList_store_row_any rfl 39 _ _ rfl w1.heap.size vx rfl rfl 39 _ ((((Below.refl _ (w1.alloc _)).alloc (Nat.le_refl _) _).block _ (by simp)).trans (heap_at _ _ _ rfl)) Ivx.out (by rw [Zvx.out];rfl) Ovx.out ?_;intro w2 hbA hgA hsA;have BA:=hid hbA;have GA:=hid hgA;have SA:Hid (w2.heap.size = w1.heap.size+1+1):=hid (hsA.trans (by simp));clear hbA hgA hsA)
  | (refine wpList_store_row_any rfl 39 _ _ rfl (w1.heap.size+1) vy rfl rfl 39 _ ((BA.out.same _ (by simp) (by omega)).trans (heap_at _ _ _ (by simp))) Ivy.out (by rw [Zvy.out];rfl) Ovy.out ?_;intro wy hbB hgB hsB;have BC:=hid hbB;have RG:=hid hgB;have SB:Hid (wy.heap.size = w1.heap.size+1+1):=hid (hsB.trans SA.out);clear hbB hgB hsB))
 have B1Y:Hid (Below w1.heap.size w1 wy):=hid ((((Below.refl _ _).alloc (Nat.le_refl _) _).alloc (by simp) _).trans (((BA.out.mono (T:=fun k => k = w1.heap.size ∨ k = w1.heap.size+1) (fun _ _ q => .inl q)).step BC.out (fun _ _ q => .inr q)).to_below (by simp;omega) (fun k hk q => by omega)))
 have RR:Hid (wy.heap[w1.heap.size]? = some (.cells vx 39 (0,0))):=hid ((BC.out.same _ (by have:=SA.out;omega) (by omega)).trans GA.out)
 have RLy:Hid (wy.heap[w.heap.size]? = some (.cells vl 39 (0,0))):=hid ((B1Y.out.block _ (by have:=HS1.out;omega)).trans ((B1.out.block _ (by have:=HSV.out;omega)).trans RL.out))
 have RTy:Hid (wy.heap[(w.heap.size+1)]? = some (.cells vt 39 (0,0))):=hid ((B1Y.out.block _ (by have:=HS1.out;omega)).trans ((B1.out.block _ (by have:=HSV.out;omega)).trans RT.out))
 have RF0:Hid (wy.heap[(w.heap.size+1+1)]? = some (.cells #[.int .i64 0,.int .i64 0] 52 (0,0))):=hid ((B1Y.out.block _ (by have:=HS1.out;omega)).trans ((B1.out.block _ (by have:=HSV.out;omega)).trans RF.out))
 have HBY:Hid (Below w.heap.size w wy):=hid ((HB.out.trans (B1.out.mono (by have:=HSV.out;omega))).trans (B1Y.out.mono (by have:=HS1.out;omega)))
 go_wp2_with (first
  | (refine wpList_load_row_g rfl 39 _ rfl w1.heap.size rfl 39 vx (0,0) _ RR.out Tryz.underlying39 rfl Ivx.out ?_)
  | (refine wpList_load_row_g rfl 39 _ rfl (w1.heap.size+1) rfl 39 vy (0,0) _ RG.out Tryz.underlying39 rfl Ivy.out ?_)
  | (refine wpList_load_row_g rfl 39 _ rfl w.heap.size rfl 39 vl (0,0) _ RLy.out Tryz.underlying39 rfl Ivl.out ?_)
  | (refine wpList_load_row_g rfl 39 _ rfl (w.heap.size+1) rfl 39 vt (0,0) _ RTy.out Tryz.underlying39 rfl Ivt.out ?_))
 refine (PLAIN.out wy).mono ?_
 rintro ev w3 ⟨rfl,b3⟩
 have R3:Hid (w3.heap[(w.heap.size+1+1)]? = some (.cells #[.int .i64 0,.int .i64 0] 52 (0,0))):=hid ((b3.block _ (Array.getElem?_eq_some_iff.1 RF0.out).1).trans RF0.out)
 have HB3:Hid (Below w.heap.size w w3):=hid (HBY.out.trans (b3.mono HBY.out.size))
 clear b3
 go_wp2_with (refine wpList_store_row rfl 52 _ _ rfl (w.heap.size+1+1) vf rfl rfl 52 _ R3.out Ivf.out (by rw [Zvf.out];rfl) Ovf.out ?_)
 refine bodyPost_ret (v:=.agg vf) (results_cell_row rfl _ _ (w.heap.size+1+1) 52 vf (0,0) _ rfl (setRow_heap _ _ _ _ _ _ R3.out) Tryz.underlying52 rfl Ivf.out) rfl ⟨rfl,below_setRow HB3.out _ _ (by omega)⟩
def conK (old sz:Int) (b0 b1:List UInt8) (P:List (List UInt8)):Nat:=if old = 0 ∨ sz < old then 5 else if P.length ≠ (proofL 64 old 0 sz).length then 10 else if subP b0 64 old 0 sz P = (b0,b1) then 0 else 10
theorem cons18_any (old sz:Int) (b0 b1:List UInt8) (hb0:b0.length = 32) (hb1:b1.length = 32) (P:List (List UInt8)) (A:Option Addr) (n c:Nat) (w:World) (ho:0 ≤ old) (ho2:old < 18446744073709551616) (hs0:0 ≤ sz) (hsz:sz ≤ 9223372036854775808) (hI:HIn w A n c P) :
 Calls Tryz.prog 44 #[.int .u64 old,.int .u64 sz,hv b0,hv b1,.slice A n c] w fun ev w' => ev = .returned (faultV (conK old sz b0 b1 P)) ∧ Below w.heap.size w w':=by
 unfold conK
 by_cases h1:old = 0
 ·rw [if_pos (.inl h1)];exact cons18_range0 old sz b0 b1 hb0 hb1 P A n c w ho ho2 hs0 hsz hI h1
 ·by_cases h2:sz < old
  ·rw [if_pos (.inr h2)];exact cons18_range1 old sz b0 b1 hb0 hb1 P A n c w ho ho2 hs0 hsz hI h1 h2
  ·rw [if_neg (by omega)]
   by_cases hl:P.length = (proofL 64 old 0 sz).length
   ·rw [if_neg (by simpa using hl)]
    by_cases hx:(subP b0 64 old 0 sz P).1 = b0
    ·by_cases hy:(subP b0 64 old 0 sz P).2 = b1
     ·rw [if_pos (Prod.ext hx hy)];exact cons18_eq old sz b0 b1 hb0 hb1 P A n c w ho ho2 hs0 hsz hI (by omega) (by omega) hl hx hy
     ·rw [if_neg (fun q => hy (by rw [q]))];exact cons18_ne1 old sz b0 b1 hb0 hb1 P A n c w ho ho2 hs0 hsz hI (by omega) (by omega) hl hx hy
    ·rw [if_neg (fun q => hx (by rw [q]))];exact cons18_ne0 old sz b0 b1 hb0 hb1 P A n c w ho ho2 hs0 hsz hI (by omega) (by omega) hl hx
   ·rw [if_pos hl];exact cons18_len old sz b0 b1 hb0 hb1 P A n c w ho ho2 hs0 hsz hI (by omega) (by omega) hl
end Go.Proofs.YtpdkpdpkggepcaaGreatDoor
