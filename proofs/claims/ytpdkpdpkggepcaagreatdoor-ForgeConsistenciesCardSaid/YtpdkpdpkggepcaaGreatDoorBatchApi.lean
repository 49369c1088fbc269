/- batch.start, Root, Verify. Condition: the package-level variables read as listed. -/
import Derived.Test.YtpdkpdpkggepcaaGreatDoorBatchNode
import Derived.Test.YtpdkpdpkggepcaaGreatDoorShapeBatch
import Derived.Test.YtpdkpdpkggepcaaGreatDoorErrs
import Derived.Laws.ResultCell
namespace Go.Proofs.YtpdkpdpkggepcaaGreatDoor
open Go.ChangeShapes Go.WideShapes Go.ChangeAt Go.RowKit
set_option maxRecDepth 100000
set_option maxHeartbeats 4000000
open Lib (hid)
set_option linter.unusedVariables false
def batchK (x sz:Int) (n m:Nat):Nat:=if n = 0 then 2 else if 9223372036854775808 < sz ∨ sz < x ∨ sz - x < n then 5 else if (batchL 64 x (x+n) 0 sz).length ≠ m then 10 else 0
theorem start_ok (x sz:Int) (lA pA:Option Addr) (n m lcap pcap:Nat) (w:World) (hx0:0 ≤ x) (hx1:x < 18446744073709551616) (hs0:0 ≤ sz) (hs1:sz < 18446744073709551616) (hn:n ≤ 9223372036854775807) (hm:m ≤ 9223372036854775807) (hk:batchK x sz n m = 0) :
 Calls Tryz.prog 111 #[.int .u64 x,.int .u64 sz,.slice lA n lcap,.slice pA m pcap] w fun ev w' => ∃ W,ev = .returned (.tuple #[.pointer (some ⟨W,0,none⟩),.nilIface]) ∧ w.heap.size ≤ W ∧ WalkAt w' W x (.slice lA n lcap) (.slice pA m pcap) (.func (.func 118) #[] #[]) ∧ Below w.heap.size w w':=by
 unfold batchK at hk
 by_cases h0:n = 0
 ·rw [if_pos h0] at hk;cases hk
 rw [if_neg h0] at hk
 by_cases h3:9223372036854775808 < sz ∨ sz < x ∨ sz - x < n
 ·rw [if_pos h3] at hk;cases hk
 rw [if_neg h3] at hk
 by_cases h4:(batchL 64 x (x+n) 0 sz).length ≠ m
 ·rw [if_pos h4] at hk;cases hk
 have hn8:(n:Int) < 18446744073709551616:=by omega
 have hn0:((n:Int) == 0) = false:=by simp;omega
 have h1':decide (9223372036854775808 < sz) = false:=by simp;omega
 have h2':x ≤ sz:=by omega
 have hsum:x+(n:Int) < 18446744073709551616:=by omega
 have h1:¬ 9223372036854775808 < sz:=by omega
 have h2:¬ sz < x:=by omega
 have h5:¬ sz - x < n:=by omega
 obtain ⟨want,hwant⟩:∃ L,batchL 64 x (x+n) 0 sz = L:=⟨_,rfl⟩
 have hbo:=batch_ok x (x+n) sz w hx0 (by omega) (by omega) (by omega)
 rw [hwant] at h4 hbo
 obtain ⟨q,hq⟩:∃ q,want.length = q:=⟨_,rfl⟩
 rw [hq] at h4 hbo
 obtain rfl:q = m:=by omega
 clear hwant hq h4 hk h3 hm
 go_enter Tryz.func111,Tryz.ntmps111
 go_wp2_with fail
 refine hbo.mono ?_
 rintro ev w1 ⟨v,rfl,hown,hb⟩
 obtain ⟨Aq,cq,rfl,hcq⟩:=own_shape hown
 have HB:=hid hb
 clear hown hb hbo
 go_wp2
 refine bodyPost_ret (v:=.tuple #[.pointer (some ⟨w1.heap.size,0,none⟩),.nilIface]) (by simp [results,Tryz.results111,go_sem]) rfl ⟨w1.heap.size,rfl,HB.out.size,heap_at _ _ _ rfl,HB.out.alloc HB.out.size _⟩
theorem HIn.at {w:World} {A:Option Addr} {n cap:Nat} {l:List (List UInt8)} (h:HIn w A n cap l):HAt w A w.heap.size l:=by
 obtain ⟨h1,h2,h3,h4,h5⟩:=h
 rcases h5 with h5 | ⟨g,o,h6,h7⟩
 ·exact .inl h5
 ·by_cases hl:l = []
  ·exact .inl hl
  ·exact .inr ⟨g,o,h6,h7,rangeAt_lt h7 (hashCells_ne h1 hl)⟩
def rootB (x sz:Int) (L P:List (List UInt8)):List UInt8:=(sayF nodeH 64 x (x+L.length) (leafAt x L) 0 sz P).1
theorem noted_none (base W:Nat):Noted (σ:=Unit) (β:=Unit) base W (fun _ _ => True) (fun _ _ => False) id:=⟨fun _ _ _ _ h => h.elim,fun _ _ _ _ _ _ => trivial⟩
theorem noteOK_none:NoteOKNote (σ:=Unit) (β:=Unit) (fun _ _ => True) (fun _ _ => False) id (fun o _ _ _ _ _ => o) (fun _ => True):=by
 intro w s b m e p q _ _ _ _ _ _ _ _
 refine (note_any b m m e p q w).mono ?_
 rintro ev w' ⟨h1,h2⟩
 exact ⟨h1,s,rfl,trivial,But.new h2,fun _ h => h.elim⟩
theorem says_whole (B:Nat) (a:Nat → Addr) (base W:Nat) (x sz:Int) (lA pA:Option Addr) (lcap pcap:Nat) (L P:List (List UInt8)) (w:World) (hE:Env B a w) (hW:WalkAt w W x (.slice lA L.length lcap) (.slice pA P.length pcap) (.func (.func 118) #[] #[])) (hl:HAt w lA base L) (hp:HAt w pA base P) (hL:H32 L) (hP:H32 P) (hlc:L.length ≤ lcap) (hlm:lcap ≤ 9223372036854775807) (hpc:P.length ≤ pcap) (hpm:pcap ≤ 9223372036854775807)
 (hB:B ≤ base) (hbW:base ≤ W) (hx0:0 ≤ x) (hsz:sz ≤ 9223372036854775808) (hk:batchK x sz L.length P.length = 0) :
 Calls Tryz.prog 112 #[.pointer (some ⟨W,0,none⟩),.agg #[.int .u64 0,.int .u64 sz]] w fun ev w' => ev = .returned (hv (rootB x sz L P)) ∧ (rootB x sz L P).length = 32 ∧ But (· = W) w w':=by
 have h0:L.length ≠ 0:=fun h0 => by unfold batchK at hk;rw [if_pos h0] at hk;cases hk
 have h3:¬ (9223372036854775808 < sz ∨ sz < x ∨ sz - x < L.length):=fun h3 => by unfold batchK at hk;rw [if_neg h0,if_pos h3] at hk;cases hk
 have h4:(batchL 64 x (x+L.length) 0 sz).length ≤ P.length:=by
  refine Nat.le_of_not_lt fun h4 => ?_
  unfold batchK at hk;rw [if_neg h0,if_neg h3,if_pos (by omega)] at hk;cases hk
 refine ((bsaysNote base W x lA L lcap (fun (_:Unit) _ => True) (fun _ _ => False) (id:Unit → Unit) (fun o _ _ _ _ _ => o) (fun _ => True) (fun _ _ _ _ _ _ _ => trivial) hL hx0 hlc hlm (Nat.lt_of_lt_of_le hE.low hB) hbW (noted_none _ _) noteOK_none 64) 0 sz pA pcap P w () ⟨hW,hl,hp,hP,hpc,hpm,hE.tab,trivial⟩ (by omega) (by omega) hsz (by rw [pow2_64];omega) h4 trivial).mono ?_
 rintro ev w' ⟨e1,e2,_,_,_,_,_,e3⟩
 exact ⟨e1,e2,e3.1.mono (fun _ _ q => q.elim id False.elim)⟩
theorem root_ok (a:Nat → Addr) (B:Nat) (x sz:Int) (lA pA:Option Addr) (lcap pcap:Nat) (L P:List (List UInt8)) (w:World) (hE:Env B a w) (hl:HIn w lA L.length lcap L) (hp:HIn w pA P.length pcap P) (hx0:0 ≤ x) (hx1:x < 18446744073709551616) (hs0:0 ≤ sz) (hs1:sz < 18446744073709551616) (hk:batchK x sz L.length P.length = 0) :
 Calls Tryz.prog 101 #[.int .u64 x,.int .u64 sz,.slice lA L.length lcap,.slice pA P.length pcap] w fun ev w' => ev = .returned (.tuple #[hv (rootB x sz L P),.nilIface]) ∧ (rootB x sz L P).length = 32 ∧ Below w.heap.size w w':=by
 have hsz:sz ≤ 9223372036854775808:=by
  refine Int.not_lt.1 fun h => ?_
  unfold batchK at hk;split at hk
  ·cases hk
  ·rw [if_pos (.inl h)] at hk;cases hk
 have hst:=start_ok x sz lA pA L.length P.length lcap pcap (w.alloc (.cells (List.replicate 32 (Value.int .u8 0)).toArray 39)) hx0 hx1 hs0 hs1 (by have:=hl.2.2.1;have:=hl.2.2.2.1;omega) (by have:=hp.2.2.1;have:=hp.2.2.2.1;omega) hk
 have hBa:Hid (Below w.heap.size w (w.alloc (.cells (List.replicate 32 (Value.int .u8 0)).toArray 39))):=hid ((Below.refl _ _).alloc (Nat.le_refl _) _)
 have HG:=hid (heap_at w (.cells (List.replicate 32 (Value.int .u8 0)).toArray 39) w.heap.size rfl)
 have hsw:w.heap.size < (w.alloc (.cells (List.replicate 32 (Value.int .u8 0)).toArray 39)).heap.size:=by simp
 obtain ⟨wa,hwa⟩:∃ wa,w.alloc (.cells (List.replicate 32 (Value.int .u8 0)).toArray 39) = wa:=⟨_,rfl⟩
 rw [hwa] at hst hBa HG hsw
 have HWA:=hid hwa
 simp only [List.replicate,List.toArray] at HWA
 obtain ⟨r,hr⟩:∃ r,rootB x sz L P = r:=⟨_,rfl⟩
 have HS:=hid (And.intro hE (And.intro hl (And.intro hp (And.intro hk hr))))
 rw [hr]
 obtain ⟨vr,hvr⟩:∃ vr,(bytesV r).toArray = vr:=⟨_,rfl⟩
 have hvr':hv r = .agg vr:=by rw [hv,hvr]
 rw [hvr']
 have HVR:=hid hvr
 have HO:=hid (show vr.all (·.oneCell') = true by rw [← hvr];exact bytesV_all _)
 clear hE hk hwa hr hvr hl hp
 go_enter Tryz.func101,Tryz.ntmps101
 go_wp2_with fail
 rw [HWA.out]
 refine hst.mono ?_
 rintro ev w1 ⟨W,rfl,hW1,hW2,hb⟩
 have HB:=hid (hBa.out.trans (hb.mono (by omega)))
 have HG1:=hid ((hb.block _ hsw).trans HG.out)
 have hWl:Hid (W < w1.heap.size):=hid (Array.getElem?_eq_some_iff.1 hW2).1
 have hsa:=says_whole B a w.heap.size W x sz lA pA lcap pcap L P w1 (HS.out.1.step HB.out) hW2 (HS.out.2.1.at.same (fun g hg _ => HB.out.block g hg) HS.out.2.1.1) (HS.out.2.2.1.at.same (fun g hg _ => HB.out.block g hg) HS.out.2.2.1.1) HS.out.2.1.1 HS.out.2.2.1.1 HS.out.2.1.2.2.1 HS.out.2.1.2.2.2.1 HS.out.2.2.1.2.2.1 HS.out.2.2.1.2.2.2.1 HS.out.1.laid.size (by omega) hx0 hsz HS.out.2.2.2.1
 rw [HS.out.2.2.2.2,hvr'] at hsa
 have HW1:=hid hW1
 clear hst hb hW2 hW1
 go_wp2_with fail
 refine hsa.mono ?_
 rintro ev w2 ⟨rfl,hrl,hb2⟩
 have HG2:=hid ((hb2.same _ (by have:=HW1.out;have:=hWl.out;omega) (by have:=HW1.out;omega)).trans HG1.out)
 have HZ:Hid (vr.size = 32):=hid (by rw [← HVR.out];simp [bytesV_length,hrl])
 have HI:=hid (show (Tryz.prog.info? 39).map (·.size) = some vr.size by rw [HZ.out];kernel_rfl)
 have HB2:=hid (HB.out.trans (hb2.to_below HB.out.size (fun k hk q => by have:=HW1.out;omega)))
 have HRL:=hid hrl
 clear hsa hb2 hrl
 go_wp2_with (first
  | (refine wpList_store_row rfl 39 _ _ rfl w.heap.size vr rfl rfl 39 _ HG2.out HI.out (by rw [HZ.out];simp) HO.out ?_))
 refine bodyPost_ret (v:=.tuple #[.agg vr,.nilIface]) (results_row_tmp rfl _ _ w.heap.size 39 vr (0,0) _ rfl (setRow_heap _ _ _ _ _ _ HG2.out) Tryz.underlying39 rfl HI.out _ rfl) rfl ⟨rfl,HRL.out,?_⟩
 exact below_setRow HB2.out _ _ (by omega)
end Go.Proofs.YtpdkpdpkggepcaaGreatDoor
