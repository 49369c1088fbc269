import Derived.Test.YtpdkpdpkggepcaaGreatDoorBatchApi
import Derived.Test.YtpdkpdpkggepcaaGreatDoorBatchNodeP
/- batch.Verify. Condition: the package-level variables read as listed. -/
namespace Go.Proofs.YtpdkpdpkggepcaaGreatDoor
open Go.ChangeShapes Go.WideShapes Go.ChangeAt Go.RowKit
set_option maxRecDepth 100000
set_option maxHeartbeats 4000000
open Lib (hid)
set_option linter.unusedVariables false
theorem verify_ok (a:Nat → Addr) (B:Nat) (x sz:Int) (lA pA:Option Addr) (lcap pcap:Nat) (L P:List (List UInt8)) (t:List UInt8) (ht:t.length = 32) (w:World) (hE:Env B a w) (hl:HIn w lA L.length lcap L) (hp:HIn w pA P.length pcap P) (hx0:0 ≤ x) (hx1:x < 18446744073709551616) (hs0:0 ≤ sz) (hs1:sz < 18446744073709551616) (hk:batchK x sz L.length P.length = 0) :
 Calls Tryz.prog 73 #[.int .u64 x,.int .u64 sz,.slice lA L.length lcap,.slice pA P.length pcap,hv t] w fun ev w' => ev = .returned (if rootB x sz L P = t then .nilIface else errV a 10) ∧ Below w.heap.size w w':=by
 obtain ⟨vt,hvt⟩:∃ vt,(bytesV t).toArray = vt:=⟨_,rfl⟩
 have hvt':hv t = .agg vt:=by rw [hv,hvt]
 have HVT:=hid hvt
 rw [hvt']
 have HZt:=hid (show vt.size = 32 by rw [← hvt];simp [bytesV_length,ht])
 have HIt:=hid (show (Tryz.prog.info? 39).map (·.size) = some vt.size by rw [HZt.out];kernel_rfl)
 have hit:(Tryz.prog.info? 39).map (·.size) = some vt.size:=HIt.out
 have hot:vt.all (·.oneCell') = true:=by rw [← hvt];exact bytesV_all _
 have HG:=hid (heap_at w (.cells vt 39) w.heap.size rfl)
 have HBa:Hid (Below w.heap.size w (w.alloc (.cells vt 39))):=hid ((Below.refl _ _).alloc (Nat.le_refl _) _)
 have hsw:w.heap.size < (w.alloc (.cells vt 39)).heap.size:=by simp
 obtain ⟨wa,hwa⟩:∃ wa,w.alloc (.cells vt 39) = wa:=⟨_,rfl⟩
 rw [hwa] at HG HBa hsw
 have HWA:=hid hwa
 have HE:=hid (hE.step HBa.out)
 have hst:=root_ok a B x sz lA pA lcap pcap L P wa HE.out (hl.below HBa.out) (hp.below HBa.out) hx0 hx1 hs0 hs1 hk
 obtain ⟨r,hr⟩:∃ r,rootB x sz L P = r:=⟨_,rfl⟩
 rw [hr] at hst ⊢
 obtain ⟨vr,hvr⟩:∃ vr,(bytesV r).toArray = vr:=⟨_,rfl⟩
 have hvr':hv r = .agg vr:=by rw [hv,hvr]
 rw [hvr'] at hst
 have HVR:=hid (And.intro hvr' hvt')
 have HO:=hid (show vr.all (·.oneCell') = true by rw [← hvr];exact bytesV_all _)
 have HT:=hid ht
 clear hE hk hwa hvt hvt' hr hvr hvr' hl hp ht
 by_cases hrt:r = t
 ·rw [if_pos hrt]
  have HRT:=hid hrt
  clear hrt
  go_enter Tryz.func73,Tryz.ntmps73
  go_wp2_with fail
  rw [HWA.out]
  refine hst.mono ?_
  rintro ev w1 ⟨rfl,hrl,hb⟩
  have hq:∀ w,(Op.equalIn 10000 39 (.agg vr) (.agg vt)).run Tryz.prog w = .ok true w:=fun w => by rw [eq_hash r t hrl HT.out vr vt HVR.out.1 HVR.out.2 w];simp [HRT.out]
  have HZ:Hid (vr.size = 32):=hid (by have:=HVR.out.1;rw [hv] at this;injection this with this;rw [← this];simp [bytesV_length,hrl])
  have HI:=hid (show (Tryz.prog.info? 39).map (·.size) = some vr.size by rw [HZ.out];kernel_rfl)
  have HG1:=hid ((hb.block _ hsw).trans HG.out)
  have HB:=hid (HBa.out.trans (hb.mono (by omega)))
  have HS1:=hid (show w.heap.size < w1.heap.size by have:=hb.size;omega)
  clear hst hb hrl
  go_wp2_with (first
   | (refine wpList_store_row_any rfl 39 _ _ rfl w1.heap.size vr rfl rfl 39 _ (heap_at _ _ _ rfl) HI.out (by rw [HZ.out];rfl) HO.out ?_;intro w5 hb5 hg5 hs5;have HB5:=hid (((Below.refl _ w1).alloc (Nat.le_refl _) _).trans (hb5.to_below (by simp) (fun k hk q => by omega)));have HG5:=hid hg5;clear hb5 hg5 hs5)
   | (refine wpList_load_row_g rfl 39 _ rfl w1.heap.size rfl 39 vr (0,0) _ HG5.out Tryz.underlying39 rfl HI.out ?_)
   | (refine wpList_load_row_g rfl 39 _ rfl w.heap.size rfl 39 vt (0,0) _ ((HB5.out.block _ HS1.out).trans HG1.out) Tryz.underlying39 rfl HIt.out ?_))
  go_ret
  exact ⟨rfl,HB.out.trans (HB5.out.mono HB.out.size)⟩
 ·rw [if_neg hrt]
  have he10:=HE.out.laid.e10
  have hg10:2 < wa.heap.size:=block_of_cell he10
  have HRT:=hid hrt
  unfold errV at he10 ⊢
  have HE10:=hid (And.intro he10 hg10)
  clear hrt he10 hg10
  go_enter Tryz.func73,Tryz.ntmps73
  go_wp2_with fail
  rw [HWA.out]
  refine hst.mono ?_
  rintro ev w1 ⟨rfl,hrl,hb⟩
  have hq:∀ w,(Op.equalIn 10000 39 (.agg vr) (.agg vt)).run Tryz.prog w = .ok false w:=fun w => by rw [eq_hash r t hrl HT.out vr vt HVR.out.1 HVR.out.2 w];simp [HRT.out]
  have HZ:Hid (vr.size = 32):=hid (by have:=HVR.out.1;rw [hv] at this;injection this with this;rw [← this];simp [bytesV_length,hrl])
  have HI:=hid (show (Tryz.prog.info? 39).map (·.size) = some vr.size by rw [HZ.out];kernel_rfl)
  have HG1:=hid ((hb.block _ hsw).trans HG.out)
  have HB:=hid (HBa.out.trans (hb.mono (by omega)))
  have HS1:=hid (show w.heap.size < w1.heap.size by have:=hb.size;omega)
  have HE1:=hid (cell_below hb HE10.out.1 HE10.out.2)
  have HL1:=hid (show 2 < w1.heap.size by have:=hb.size;have:=HE10.out.2;omega)
  clear hst hb hrl
  go_wp2_with (first
   | (refine wpList_store_row_any rfl 39 _ _ rfl w1.heap.size vr rfl rfl 39 _ (heap_at _ _ _ rfl) HI.out (by rw [HZ.out];rfl) HO.out ?_;intro w5 hb5 hg5 hs5;have HB5:=hid (((Below.refl _ w1).alloc (Nat.le_refl _) _).trans (hb5.to_below (by simp) (fun k hk q => by omega)));have HG5:=hid hg5;have e10:=cell_below HB5.out HE1.out HL1.out;clear hb5 hg5 hs5)
   | (refine wpList_load_row_g rfl 39 _ rfl w1.heap.size rfl 39 vr (0,0) _ HG5.out Tryz.underlying39 rfl HI.out ?_)
   | (refine wpList_load_row_g rfl 39 _ rfl w.heap.size rfl 39 vt (0,0) _ ((HB5.out.block _ HS1.out).trans HG1.out) Tryz.underlying39 rfl HIt.out ?_))
  go_ret
  exact ⟨rfl,HB.out.trans (HB5.out.mono HB.out.size)⟩
/- batch.Path: the closure that notes a leaf's siblings; Path. Condition: the package-level variables read as listed. -/
def pathB (x sz:Int) (L P:List (List UInt8)) (ix:Int):List (List UInt8):=pathF nodeH 64 x (x+L.length) (leafAt x L) ix 0 sz P
end Go.Proofs.YtpdkpdpkggepcaaGreatDoor
