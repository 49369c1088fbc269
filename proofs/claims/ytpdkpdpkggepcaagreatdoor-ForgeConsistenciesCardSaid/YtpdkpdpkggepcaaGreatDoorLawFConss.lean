import Derived.Test.YtpdkpdpkggepcaaGreatDoorMem
import Derived.Test.YtpdkpdpkggepcaaGreatDoorVerifyIncl
import Derived.Test.YtpdkpdpkggepcaaGreatDoorVerifyCons
import Derived.Test.YtpdkpdpkggepcaaGreatDoorForgeLives
import Derived.ChangeKeysEq
import Derived.Test.YtpdkpdpkggepcaaGreatDoorForgePart
import Derived.Test.YtpdkpdpkggepcaaGreatDoorSpanPlain
import Derived.Test.YtpdkpdpkggepcaaGreatDoorConsPlain
import Derived.Test.YtpdkpdpkggepcaaGreatDoorTwinHash
import Derived.Test.YtpdkpdpkggepcaaGreatDoorRef20d
import Derived.Test.YtpdkpdpkggepcaaGreatDoorRefTops
import Derived.Test.YtpdkpdpkggepcaaGreatDoorRef18d
/- verify.Root, Inclusion where the path is too long or too short, or the leaf is none. Condition: the package-level variables read as listed. -/
namespace Go.Proofs.YtpdkpdpkggepcaaGreatDoor
open Go.ChangeShapes Go.WideShapes Go.ChangeAt Go.RowKit
set_option maxRecDepth 100000
set_option maxHeartbeats 8000000
open Lib (hid)
set_option linter.unusedVariables false
section
variable {α:Type} (node:α → α → α)
def SaysN (n l:Nat) (h:α) (ps:List α):Prop:=∃ f,l+1 ≤ 2 ^ f ∧ bot node (f+1) n (l+1) h ps = none
theorem SaysN.nil {n l:Nat} {h:α} (hs:SaysN node n l h []):l ≠ 0:=by
 obtain ⟨f,_,hb⟩:=hs
 intro e
 subst e
 rw [bot_one node (by omega)] at hb
 cases hb
theorem SaysN.fuel {n l:Nat} {h:α} {ps:List α} (hs:SaysN node n l h ps) (hl:0 < l):∃ f,l+1 ≤ 2 ^ (f+1) ∧ bot node (f+1+1) n (l+1) h ps = none:=by
 obtain ⟨f,hf,hb⟩:=hs
 cases f with
 | zero => simp at hf;omega
 | succ f => exact ⟨f,hf,hb⟩
theorem SaysN.lone {n:Nat} {h:α} {ps:List α} (hs:SaysN node n n h ps) (hn:0 < n) (he:n % 2 = 0):SaysN node (n / 2) (n / 2) h ps:=by
 obtain ⟨f,hf,hb⟩:=hs.fuel node hn
 rw [Nat.pow_succ] at hf
 rw [bot_last node (by omega) ⟨he,by omega⟩,show (n+1+1) / 2 = n / 2+1 by omega] at hb
 exact ⟨f,by omega,hb⟩
theorem SaysN.odd {n l:Nat} {h p:α} {ps:List α} (hs:SaysN node n l h (p :: ps)) (hl:0 < l) (ho:n % 2 = 1):SaysN node (n / 2) (l / 2) (node p h) ps:=by
 obtain ⟨f,hf,hb⟩:=hs.fuel node hl
 rw [Nat.pow_succ] at hf
 rw [bot_odd node (by omega) ho,show (l+1+1) / 2 = l / 2+1 by omega] at hb
 exact ⟨f,by omega,hb⟩
theorem SaysN.even {n l:Nat} {h p:α} {ps:List α} (hs:SaysN node n l h (p :: ps)) (hl:0 < l) (he:n % 2 = 0) (hn:n ≠ l):SaysN node (n / 2) (l / 2) (node h p) ps:=by
 obtain ⟨f,hf,hb⟩:=hs.fuel node hl
 rw [Nat.pow_succ] at hf
 rw [bot_even node (by omega) he (by omega),show (l+1+1) / 2 = l / 2+1 by omega] at hb
 exact ⟨f,by omega,hb⟩
theorem SaysN.up {n:Nat} {h:α} {ps:List α} (hs:SaysN node n n h ps):∀ k,(∀ j,j < k → n / 2 ^ j % 2 = 0 ∧ n / 2 ^ j ≠ 0) → SaysN node (n / 2 ^ k) (n / 2 ^ k) h ps
 | 0,_ => by simpa using hs
 | k+1,hk => by
  have ih:=SaysN.up hs k (fun j hj => hk j (by omega))
  have h1:=hk k (by omega)
  have:=ih.lone node (Nat.pos_of_ne_zero h1.2) h1.1
  rwa [Nat.div_div_eq_div_mul,← Nat.pow_succ] at this
end
/- verify.Consistency where the proof says other roots, or none. Condition: the package-level variables read as listed. -/
def CSaysN {α:Type} (node:α → α → α) (n l:Nat) (h0 h1:α) (ps:List α):Prop:=SaysN (node2 node) n l (false,h0,h1) (ps.map sib)
theorem Says.agree {α:Type} (node:α → α → α) {n l:Nat} {h:α} {ps:List α} {x y:Option α} (hx:∃ f,l+1 ≤ 2 ^ f ∧ bot node (f+1) n (l+1) h ps = x) (hy:∃ f,l+1 ≤ 2 ^ f ∧ bot node (f+1) n (l+1) h ps = y):x = y:=by
 obtain ⟨f,hf,rfl⟩:=hx
 obtain ⟨g,hg,rfl⟩:=hy
 exact bot_fuel node f g n (l+1) h ps hf hg
theorem CSays.inj {α:Type} (node:α → α → α) {n l:Nat} {h0 h1 r0 r1 q0 q1:α} {ps:List α} (hs:CSays node n l h0 h1 ps r0 r1) (ht:CSays node n l h0 h1 ps q0 q1):r0 = q0 ∧ r1 = q1:=by
 have:=Says.agree _ hs ht
 simp only [Option.some.injEq,Prod.mk.injEq] at this
 exact ⟨this.2.1,this.2.2⟩
theorem CSaysN.not {α:Type} (node:α → α → α) {n l:Nat} {h0 h1 r0 r1:α} {ps:List α} (hs:CSaysN node n l h0 h1 ps):¬ CSays node n l h0 h1 ps r0 r1:=fun ht => by
 have:=Says.agree _ hs ht
 cases this
theorem vcons_other (a:Nat → Addr) (B M N:Nat) (b0 b1:List UInt8) (A:Option Addr) (m c:Nat) (ps:List (List UInt8)) (w:World) (hE:Env B a w) (h0:b0.length = 32) (h1:b1.length = 32) (hp:HIn w A m c ps) {k n:Nat} {h:List UInt8} {rest:List (List UInt8)} (hM:M = 2 ^ k * (n+1)) (he:n % 2 = 0) (hMN:M < N) (hN:N ≤ 9223372036854775808) (hps:ps = (if M = 2 ^ k then [] else [h]) ++ rest) (hh:M = 2 ^ k → h = b0) (lh:h.length = 32) (r0 r1:List UInt8) (hne:¬ (r0 = b0 ∧ r1 = b1)) (hs:CSays nodeH n ((N - 1) / 2 ^ k) h h rest r0 r1) (hm9:m ≤ 1000000000) :
 Calls Tryz.prog 42 #[.int .u64 M,.int .u64 N,hv b0,hv b1,.slice A m c] w fun e w' => e = .returned (errV a 10) ∧ Below w.heap.size w w' :=
 (vcons_gen a B M N b0 b1 A m c ps w hE h0 h1 hp hM he hMN hN hps hh lh _ Iff.rfl hm9).mono (fun e w' h => ⟨h.1.elim (fun q => absurd q.1 (fun q => hne (hs.inj nodeH q))) (·.2),h.2⟩)
theorem vcons_none (a:Nat → Addr) (B M N:Nat) (b0 b1:List UInt8) (A:Option Addr) (m c:Nat) (ps:List (List UInt8)) (w:World) (hE:Env B a w) (h0:b0.length = 32) (h1:b1.length = 32) (hp:HIn w A m c ps) {k n:Nat} {h:List UInt8} {rest:List (List UInt8)} (hM:M = 2 ^ k * (n+1)) (he:n % 2 = 0) (hMN:M < N) (hN:N ≤ 9223372036854775808) (hps:ps = (if M = 2 ^ k then [] else [h]) ++ rest) (hh:M = 2 ^ k → h = b0) (lh:h.length = 32) (hs:CSaysN nodeH n ((N - 1) / 2 ^ k) h h rest) (hm9:m ≤ 1000000000) :
 Calls Tryz.prog 42 #[.int .u64 M,.int .u64 N,hv b0,hv b1,.slice A m c] w fun e w' => e = .returned (errV a 10) ∧ Below w.heap.size w w' :=
 (vcons_gen a B M N b0 b1 A m c ps w hE h0 h1 hp hM he hMN hN hps hh lh _ Iff.rfl hm9).mono (fun e w' h => ⟨h.1.elim (fun q => absurd q.1 (hs.not nodeH)) (·.2),h.2⟩)
theorem vcons_empty (a:Nat → Addr) (B M N:Nat) (b0 b1:List UInt8) (A:Option Addr) (m c:Nat) (ps:List (List UInt8)) (w:World) (hE:Env B a w) (h0:b0.length = 32) (h1:b1.length = 32) (hp:HIn w A m c ps) {k n:Nat} (hM:M = 2 ^ k * (n+1)) (he:n % 2 = 0) (hn0:n ≠ 0) (hMN:M < N) (hN:N ≤ 9223372036854775808) (hps:ps = []) :
 Calls Tryz.prog 42 #[.int .u64 M,.int .u64 N,hv b0,hv b1,.slice A m c] w fun e w' => e = .returned (errV a 10) ∧ Below w.heap.size w w':=by
 obtain ⟨v0,ev0,Hv0,Zv0,Iv0,Ov0⟩:=row_of b0 h0
 obtain ⟨v1,ev1,Hv1,Zv1,Iv1,Ov1⟩:=row_of b1 h1
 obtain ⟨wv,hwv⟩:∃ x,(w.alloc (.cells v0 39)).alloc (.cells v1 39) = x:=⟨_,rfl⟩
 have HBv:Hid (Below w.heap.size w wv):=hid (by rw [← hwv];exact ((Below.refl _ _).alloc (Nat.le_refl _) _).alloc (by simp) _)
 have HSV:Hid (wv.heap.size = w.heap.size+1+1):=hid (by rw [← hwv];simp)
 have R7:Hid (wv.heap[w.heap.size]? = some (.cells v0 39 (0,0))):=hid (by rw [← hwv,((Below.refl _ _).alloc (Nat.le_refl _) _).block _ (by simp)];exact heap_at _ _ _ rfl)
 have R8:Hid (wv.heap[w.heap.size+1]? = some (.cells v1 39 (0,0))):=hid (by rw [← hwv];exact heap_at _ _ _ (by simp))
 have HWV:=hid hwv
 have HE:=hid hE
 have hM0:0 < M:=by rw [hM];exact Nat.mul_pos (Nat.two_pow_pos _) (by omega)
 obtain rfl:m = 0:=by have:=hp.2.1;rw [hps] at this;simpa using this.symm
 have HN0:=hid hn0
 have HMM:=hid (And.intro hM (And.intro he (And.intro hMN (And.intro hM0 hN))))
 have t1:decide (9223372036854775808 < (N:Int)) = false:=by simp;omega
 have t2:((M:Int) == 0) = false:=by simp;omega
 have t3:decide ((N:Int) < M) = false:=by simp;omega
 have t4:((M:Int) == (N:Int)) = false:=by simp;omega
 have t5:decide (N < M) = false:=by simp;omega
 have t6:(M == N) = false:=by simp;omega
 have t7:(M:Int) ≠ N:=by omega
 have t8:IntKind.u64.wrap ((M:Int) - 1) = ((M - 1:Nat):Int):=by rw [IntWalk.u64_in _ (by omega)];omega
 have t9:IntKind.u64.wrap ((N:Int) - 1) = ((N - 1:Nat):Int):=by rw [IntWalk.u64_in _ (by omega)];omega
 have i1:(1:Int) ≤ M:=by omega
 have i2:(1:Int) ≤ N:=by omega
 rw [ev0,ev1]
 clear hn0 ev0 ev1 hE hp hwv h0 h1 hM0 hN hM he hMN hps
 unfold errV
 go_enter Tryz.func42,Tryz.ntmps42
 go_upto_region 1 with fail
 rw [HWV.out]
 go_wp2_with fail
 go_loop [11,12] (fun a b => ∃ j x y:Nat,a = .int .u64 x ∧ b = .int .u64 y ∧ x < 18446744073709551616 ∧ y < 18446744073709551616 ∧ Hid (j ≤ k ∧ x = (M - 1) / 2 ^ j ∧ y = (N - 1) / 2 ^ j)) (fun a _ => (intOf a).toNat)
 case atStart => exact ⟨0,M - 1,N - 1,by go_num,by go_num,by have:=HMM.out;omega,by have:=HMM.out;omega,hid ⟨Nat.zero_le _,by simp,by simp⟩⟩
 case round =>
  obtain ⟨j,x,y,rfl,rfl,hx,hy,HX⟩:=hrel
  have ho:=ones_at HMM.out.1 HMM.out.2.1 HX.out.1
  have ha:=and_one x hx
  by_cases hjk:j < k
  ·have h1:(bits .and .u64 (x:Int) 1 == 1) = true:=by rw [ha,HX.out.2.1,ho.1 hjk];rfl
   have HJ:=hid (And.intro hjk (show x % 2 = 1 by rw [HX.out.2.1];exact ho.1 hjk))
   clear ha ho hjk
   go_wp2
   go_round
   case rel => exact ⟨j+1,x / 2,y / 2,by go_num,by go_num,by omega,by omega,hid ⟨HJ.out.1,by rw [HX.out.2.1,Nat.div_div_eq_div_mul,← Nat.pow_succ],by rw [HX.out.2.2,Nat.div_div_eq_div_mul,← Nat.pow_succ]⟩⟩
   case measure => simp [intOf];have:=HJ.out.2;omega
  ·have hjk2:j = k:=by have:=HX.out.1;omega
   have hxn:x = n:=by rw [HX.out.2.1];exact ho.2 hjk2
   have h1:(bits .and .u64 (x:Int) 1 == 1) = false:=by rw [ha,hxn];have:=HMM.out.2.1;simp;omega
   have HXN:Hid (x = n ∧ y = (N - 1) / 2 ^ k):=hid ⟨hxn,by rw [HX.out.2.2,hjk2]⟩
   clear ha ho hjk hjk2 hxn
   go_upto_region 12 with (first
    | (refine wpList_load_row rfl 39 _ rfl w.heap.size rfl 39 v0 (0,0) _ R7.out Tryz.underlying39 rfl Iv0.out ?_)
    | (refine wpList_store_row_any rfl 39 _ _ rfl wv.heap.size v0 rfl rfl 39 _ (heap_at _ _ _ rfl) Iv0.out (by rw [Zv0.out];rfl) Ov0.out ?_;intro w1 hbN hgN hsN;have BW1:Hid (Below wv.heap.size wv w1):=hid (((Below.refl _ wv).alloc (Nat.le_refl _) _).trans (hbN.to_below (by simp) (fun k hk q => by omega)));have R13:=hid hgN;clear hbN hgN hsN))
   try simp only [Act.put]
   have hz:(bits .and .u64 (M:Int) ((M - 1:Nat):Int) != 0) = true:=by
    rw [and_u64 M (M - 1) (by have:=HMM.out;omega) (by have:=HMM.out;omega)]
    have:=clr_pos HMM.out.1 HMM.out.2.1 HN0.out
    simp;exact this
   have he10:=(HE.out.step (HBv.out.trans (BW1.out.mono HBv.out.size))).laid.e10
   have hg10:2 < w1.heap.size:=block_of_cell he10
   go_wp2_with fail
   go_ret
   exact ⟨rfl,HBv.out.trans (BW1.out.mono HBv.out.size)⟩
theorem vcons_off (a:Nat → Addr) (B M N:Nat) (b0 b1:List UInt8) (A:Option Addr) (m c:Nat) (ps:List (List UInt8)) (w:World) (hE:Env B a w) (h0:b0.length = 32) (h1:b1.length = 32) (hp:HIn w A m c ps) (hoff:M = 0 ∨ N < M) (hN:N ≤ 9223372036854775808) :
 Calls Tryz.prog 42 #[.int .u64 M,.int .u64 N,hv b0,hv b1,.slice A m c] w fun e w' => e = .returned (errV a 5) ∧ Below w.heap.size w w':=by
 obtain ⟨v0,ev0,Hv0,Zv0,Iv0,Ov0⟩:=row_of b0 h0
 obtain ⟨v1,ev1,Hv1,Zv1,Iv1,Ov1⟩:=row_of b1 h1
 obtain ⟨wv,hwv⟩:∃ x,(w.alloc (.cells v0 39)).alloc (.cells v1 39) = x:=⟨_,rfl⟩
 have HBv:Hid (Below w.heap.size w wv):=hid (by rw [← hwv];exact ((Below.refl _ _).alloc (Nat.le_refl _) _).alloc (by simp) _)
 have HSV:Hid (wv.heap.size = w.heap.size+1+1):=hid (by rw [← hwv];simp)
 have R7:Hid (wv.heap[w.heap.size]? = some (.cells v0 39 (0,0))):=hid (by rw [← hwv,((Below.refl _ _).alloc (Nat.le_refl _) _).block _ (by simp)];exact heap_at _ _ _ rfl)
 have R8:Hid (wv.heap[w.heap.size+1]? = some (.cells v1 39 (0,0))):=hid (by rw [← hwv];exact heap_at _ _ _ (by simp))
 have HWV:=hid hwv
 have HE:=hid hE
 have t1:decide (9223372036854775808 < (N:Int)) = false:=by simp;omega
 have he5:=(HE.out.step HBv.out).laid.e5
 have hg5:3 < wv.heap.size:=block_of_cell he5
 rw [ev0,ev1]
 clear ev0 ev1 hE hp hwv h0 h1
 unfold errV
 by_cases hz:M = 0
 ·have t2:((M:Int) == 0) = true:=by simp;omega
  subst hz
  go_enter Tryz.func42,Tryz.ntmps42
  go_upto_region 1 with fail
  rw [HWV.out]
  go_wp2_with fail
  go_ret
  exact ⟨rfl,HBv.out⟩
 ·have t2:((M:Int) == 0) = false:=by simp;omega
  have t3:decide ((N:Int) < M) = true:=by simp;omega
  go_enter Tryz.func42,Tryz.ntmps42
  go_upto_region 1 with fail
  rw [HWV.out]
  go_wp2_with fail
  go_ret
  exact ⟨rfl,HBv.out⟩
theorem vcons_unlike (a:Nat → Addr) (B M N:Nat) (b0 b1:List UInt8) (A:Option Addr) (m c:Nat) (ps:List (List UInt8)) (w:World) (hE:Env B a w) (h0:b0.length = 32) (h1:b1.length = 32) (hp:HIn w A m c ps) (hMN:M = N) (hM0:0 < M) (hN:N ≤ 9223372036854775808) (hps:¬ (m = 0 ∧ b0 = b1)) (hm9:m ≤ 1000000000) :
 Calls Tryz.prog 42 #[.int .u64 M,.int .u64 N,hv b0,hv b1,.slice A m c] w fun e w' => e = .returned (errV a 10) ∧ Below w.heap.size w w':=by
 obtain ⟨v0,ev0,Hv0,Zv0,Iv0,Ov0⟩:=row_of b0 h0
 obtain ⟨v1,ev1,Hv1,Zv1,Iv1,Ov1⟩:=row_of b1 h1
 obtain ⟨wv,hwv⟩:∃ x,(w.alloc (.cells v0 39)).alloc (.cells v1 39) = x:=⟨_,rfl⟩
 have HBv:Hid (Below w.heap.size w wv):=hid (by rw [← hwv];exact ((Below.refl _ _).alloc (Nat.le_refl _) _).alloc (by simp) _)
 have HSV:Hid (wv.heap.size = w.heap.size+1+1):=hid (by rw [← hwv];simp)
 have R7:Hid (wv.heap[w.heap.size]? = some (.cells v0 39 (0,0))):=hid (by rw [← hwv,((Below.refl _ _).alloc (Nat.le_refl _) _).block _ (by simp)];exact heap_at _ _ _ rfl)
 have R8:Hid (wv.heap[w.heap.size+1]? = some (.cells v1 39 (0,0))):=hid (by rw [← hwv];exact heap_at _ _ _ (by simp))
 have HWV:=hid hwv
 have HE:=hid hE
 subst hMN
 have t1:decide (9223372036854775808 < (M:Int)) = false:=by simp;omega
 have t2:((M:Int) == 0) = false:=by simp;omega
 have t3:decide ((M:Int) < M) = false:=by simp
 have he10:=(HE.out.step HBv.out).laid.e10
 have hg10:2 < wv.heap.size:=block_of_cell he10
 have hq:∀ w,(Op.equalIn 10000 39 (.agg v0) (.agg v1)).run Tryz.prog w = .ok (decide (b0 = b1)) w:=fun w => by rw [eq_hash b0 b1 h0 h1 v0 v1 ev0 ev1 w];congr 1;by_cases q:b0 = b1 <;> simp [q]
 rw [ev0,ev1]
 clear ev0 ev1 hE hp hwv h0 h1 hM0 hN
 unfold errV
 by_cases hm0:m = 0
 ·have hb:decide (b0 = b1) = false:=by simp;exact fun e => hps ⟨hm0,e⟩
  rw [hb] at hq
  subst hm0
  clear hps hb
  go_enter Tryz.func42,Tryz.ntmps42
  go_upto_region 1 with fail
  rw [HWV.out]
  go_wp2_with (first
   | (refine wpList_load_row_g rfl 39 _ rfl w.heap.size rfl 39 v0 (0,0) _ R7.out Tryz.underlying39 rfl Iv0.out ?_)
   | (refine wpList_load_row_g rfl 39 _ rfl (w.heap.size+1) rfl 39 v1 (0,0) _ R8.out Tryz.underlying39 rfl Iv1.out ?_))
  go_ret
  exact ⟨rfl,HBv.out⟩
 ·have hmm:((m:Int) != 0) = true:=by simp;exact hm0
  clear hps hq
  go_enter Tryz.func42,Tryz.ntmps42
  go_upto_region 1 with fail
  rw [HWV.out]
  go_wp2_with fail
  go_ret
  exact ⟨rfl,HBv.out⟩
end Go.Proofs.YtpdkpdpkggepcaaGreatDoor

/- cartularylaw20.two, right where two texts are told, or none. Condition: the package-level variables read as listed. -/
namespace Go.Proofs.YtpdkpdpkggepcaaGreatDoor
open Go.ChangeShapes Go.WideShapes Go.ChangeAt Go.RowKit
set_option linter.unusedVariables false
/- What a claim says: lengths, agreement of leaves. Plain. -/
theorem fWalk_len (said:Int × Int → Option (List UInt8)) (lv:Int → List UInt8) (L:List ByteArray) (xt yt:Int → List UInt8) (M:Nat) (h64:64 ≤ M) (hx:∀ i,(xt i).length ≤ M) (hy:∀ i,(yt i).length ≤ M) (hll:∀ i,(lv i).length = 32) (hs:∀ p h,said p = some h → h.length = 32) :
 ∀ (f:Nat) (b e:Int) (r:List UInt8 × List UInt8),fWalk said lv L xt yt f b e = some r → r.1.length ≤ M+1 ∧ r.2.length ≤ M+1
 | 0,b,e,r,h => by
  rw [fWalk] at h
  cases q:said (b,e) with
  | some x => rw [q] at h;cases h
  | none =>
   rw [q] at h
   simp only at h
   split at h
   ·cases h
   ·cases h
    exact ⟨Nat.succ_le_succ (hx b),Nat.succ_le_succ (hy b)⟩
 | f+1,b,e,r,h => by
  rw [fWalk] at h
  cases q:said (b,e) with
  | some x => rw [q] at h;cases h
  | none =>
   rw [q] at h
   simp only at h
   by_cases h2:e - b < 2
   ·rw [if_pos h2] at h
    split at h
    ·cases h
    ·cases h
     exact ⟨Nat.succ_le_succ (hx b),Nat.succ_le_succ (hy b)⟩
   ·rw [if_neg h2] at h
    split at h
    ·cases q1:fWalk said lv L xt yt f b (b+blwI (e - b)) with
     | some r1 =>
      rw [q1] at h
      cases h
      exact fWalk_len said lv L xt yt M h64 hx hy hll hs f _ _ _ q1
     | none =>
      rw [q1] at h
      exact fWalk_len said lv L xt yt M h64 hx hy hll hs f _ _ _ h
    ·cases h
     have l1:=treeB_len L b (b+blwI (e - b))
     have l2:=treeB_len L (b+blwI (e - b)) e
     have l3:=fSays_len said lv hs hll f b (b+blwI (e - b))
     have l4:=fSays_len said lv hs hll f (b+blwI (e - b)) e
     refine ⟨?_,?_⟩ <;> (rw [List.length_cons,List.length_append];omega)
theorem zip_32 {l:List (Int × Int)} {P:List (List UInt8)} (h:H32 P):∀ p h',saidL (l.zip P) p = some h' → h'.length = 32:=fun p h' q => by
 obtain ⟨x,hx,rfl⟩:=saidL_mem q
 exact h _ (List.of_mem_zip hx).2
theorem leafG_text (L:List ByteArray) (i:Int):leafG L i = shaB (0 :: logText L i):=by unfold leafG logText;exact leafH_eq _
theorem claim_text (D:List ByteArray) (x i:Int):claimLeaf D x i = shaB (0 :: claimText D x i):=by unfold claimLeaf claimText;exact leafH_eq _
theorem getD_size {L:List ByteArray} {M:Nat} (h:∀ s ∈ L,s.size ≤ M) (i:Nat):(L.getD i ByteArray.empty).size ≤ M:=by
 rw [List.getD_eq_getElem?_getD]
 cases q:L[i]? with
 | none => exact Nat.zero_le _
 | some s => exact h s (List.mem_of_getElem? q)
/- What a path that verifies says, where its leaf is another than the log's. Plain. -/
theorem fSays_said {said:Int × Int → Option (List UInt8)} {lv:Int → List UInt8} {f:Nat} {b e:Int} {h:List UInt8} (q:said (b,e) = some h):fSays said lv f b e = h:=by
 cases f <;> (rw [fSays,q])
theorem fBare_said {said:Int × Int → Option (List UInt8)} {f:Nat} {b e i:Int} {h:List UInt8} (q:said (b,e) = some h):¬ fBare said f b e i:=by
 cases f <;> (rw [fBare,q];simp)
theorem bot_len {α β:Type} (n1:α → α → α) (n2:β → β → β):∀ (f n size:Nat) (h:α) (ps:List α) (r:α) (h':β) (ps':List β) (r':β),bot n1 f n size h ps = some r → bot n2 f n size h' ps' = some r' → ps.length = ps'.length
 | 0,n,size,h,ps,r,h',ps',r',q1,q2 => by
  rw [bot] at q1 q2
  split at q1
  ·split at q2
   ·rename_i e1 e2;rw [e1,e2];rfl
   ·cases q2
  ·cases q1
 | f+1,n,size,h,ps,r,h',ps',r',q1,q2 => by
  by_cases h1:size ≤ 1
  ·rw [bot_one _ h1] at q1 q2
   cases ps with
   | cons a b => cases q1
   | nil => cases ps' with
    | cons a b => cases q2
    | nil => rfl
  ·by_cases he:n % 2 = 0 ∧ n = size - 1
   ·rw [bot_last _ (by omega) he] at q1 q2
    exact bot_len n1 n2 f _ _ _ _ _ _ _ _ q1 q2
   ·cases ps with
    | nil => rw [bot_nil _ (by omega) he] at q1;cases q1
    | cons p ps =>
     cases ps' with
     | nil => rw [bot_nil _ (by omega) he] at q2;cases q2
     | cons p' ps' =>
      by_cases ho:n % 2 = 1
      ·rw [bot_odd _ (by omega) ho] at q1 q2
       have:=bot_len n1 n2 f _ _ _ _ _ _ _ _ q1 q2
       simp [this]
      ·rw [bot_even _ (by omega) (by omega) (by omega)] at q1 q2
       have:=bot_len n1 n2 f _ _ _ _ _ _ _ _ q1 q2
       simp [this]
/- forge.Inclusion, whatever is handed in. Condition: the package-level variables read as listed. -/
end Go.Proofs.YtpdkpdpkggepcaaGreatDoor

/- What a consistency proof that verifies says, where its old root is another than the log's. Plain. -/
namespace Go.Proofs.YtpdkpdpkggepcaaGreatDoor
open Go.ChangeShapes Go.WideShapes Go.ChangeAt Go.RowKit
set_option maxRecDepth 100000
set_option maxHeartbeats 8000000
open Lib (hid)
set_option linter.unusedVariables false
def fReach (said:Int × Int → Option (List UInt8)):Nat → Int → Int → Int × Int → Prop
 | 0,b,e,p => said (b,e) ≠ none ∧ p = (b,e)
 | f+1,b,e,p => (said (b,e) ≠ none ∧ p = (b,e)) ∨ (said (b,e) = none ∧ 2 ≤ e - b ∧ (fReach said f b (b+blwI (e - b)) p ∨ fReach said f (b+blwI (e - b)) e p))
theorem fReach_said {said:Int × Int → Option (List UInt8)} {f:Nat} {b e:Int} {h:List UInt8} (q:said (b,e) = some h):fReach said f b e (b,e):=by
 cases f with
 | zero => exact ⟨by rw [q];simp,rfl⟩
 | succ f => exact .inl ⟨by rw [q];simp,rfl⟩
theorem fWalk_reach (said:Int × Int → Option (List UInt8)) (lv:Int → List UInt8) (L:List ByteArray) (xt yt:Int → List UInt8) (hs:∀ p h,said p = some h → h.length = 32) (hll:∀ i,(lv i).length = 32) :
 ∀ (f:Nat) (b e:Int),b < e → e - b ≤ pow2 f → f ≤ 64 → fSays said lv f b e = treeB L b e → fWalk said lv L xt yt f b e = none → ∀ p,fReach said f b e p → ∀ h,said p = some h → h = treeB L p.1 p.2
 | 0,b,e,h0,hp,h64,hq,hr,p,hi,h,hh => by
  obtain ⟨hn,rfl⟩:=hi
  rw [fSays_said hh] at hq
  exact hq
 | f+1,b,e,h0,hp,h64,hq,hr,p,hi,h,hh => by
  rcases hi with ⟨hn,rfl⟩ | ⟨hn,h2,hi⟩
  ·rw [fSays_said hh] at hq
   exact hq
  ·rw [fWalk,hn] at hr
   simp only at hr
   rw [fSays,hn] at hq
   simp only at hq
   have h2':¬ e - b < 2:=by omega
   have hb:=blwI_bd (n:=e - b) (by omega)
   have hk:=blwI_le_pow (n:=e - b) (f:=f) (by omega) hp
   have hps:=pow2_succ f
   have hp64:e - b ≤ pow2 64:=Int.le_trans hp (pow2_le (by omega))
   rw [if_neg h2'] at hr hq
   split at hr
   ·rename_i heq
    have hl:=List.append_inj heq (by rw [treeB_len,fSays_len said lv hs hll])
    cases q:fWalk said lv L xt yt f b (b+blwI (e - b)) with
    | some r1 => rw [q] at hr;cases hr
    | none =>
     rw [q] at hr
     simp only at hr
     rcases hi with hi | hi
     ·exact fWalk_reach said lv L xt yt hs hll f b _ (by omega) (by omega) (by omega) hl.1.symm q p hi h hh
     ·exact fWalk_reach said lv L xt yt hs hll f _ e (by omega) (by omega) (by omega) hl.2.symm hr p hi h hh
   ·cases hr
theorem cons_fold (said:Int × Int → Option (List UInt8)) (lv:Int → List UInt8) (old:Int) (before:List UInt8):∀ (f:Nat) (b e:Int) (P:List (List UInt8)),0 ≤ b → b < old → old < e → e - b ≤ pow2 f → f ≤ 64 → P.length = (proofL f old b e).length →
 (∀ p:Int × Int,b ≤ p.1 → p.1 < p.2 → p.2 ≤ e → said p = if p = (0,old) then some before else saidL ((proofL f old b e).zip P) p) →
 ∃ (k n:Nat) (h:List UInt8) (R:List (List UInt8)) (r0:List UInt8),(old - b).toNat = 2 ^ k * (n+1) ∧ n % 2 = 0 ∧ P = (if 0 < old - (2 ^ k:Nat) then [h] else []) ++ R ∧ said (old - (2 ^ k:Nat),old) = some h ∧
  bot (node2 nodeH) (f+1) n ((e - b - 1).toNat / 2 ^ k+1) (false,h,h) (R.map sib) = some (false,r0,fSays said lv f b e) ∧
  said (b,e) = none ∧ (∀ i,¬ fBare said f b e i) ∧ (∀ x ∈ (proofL f old b e).zip P,said x.1 = some x.2 ∧ fReach said f b e x.1) ∧ fReach said f b e (old - (2 ^ k:Nat),old) ∧ subP before f old b e P = (r0,fSays said lv f b e)
 | 0,b,e,P,h0,h1,h2,hp,_,_,_ => by rw [pow2_zero] at hp;omega
 | f+1,b,e,P,h0,h1,h2,hp,hf,hl,hs => by
  have hb:=blwI_bd (n:=e - b) (by omega)
  have hk:=blwI_le_pow (n:=e - b) (f:=f) (by omega) hp
  have hps:=pow2_succ f
  have hp64:=pow2_le (show f+1 ≤ 64 by omega)
  have hn:=pow2_nat hp (by omega)
  obtain ⟨q,hq⟩:=blwI_two (n:=e - b) (by omega)
  have e1:blw (e - b).toNat = (blwI (e - b)).toNat:=(blwI_toNat (by omega)).symm
  have hbe:=hs (b,e) (by simp) (by simp;omega) (by simp)
  rw [if_neg (by simp;omega)] at hbe
  have h3:¬ e - b < 2:=by omega
  have ep:proofL (f+1) old b e = if old ≤ b+blwI (e - b) then proofL f old b (b+blwI (e - b)) ++ [(b+blwI (e - b),e)] else proofL f old (b+blwI (e - b)) e ++ [(b,b+blwI (e - b))]:=by rw [proofL,if_neg (by omega)]
  obtain ⟨K,hK⟩:∃ k,blwI (e - b) = k:=⟨_,rfl⟩
  rw [hK] at hb hk hq e1 ep
  have hnk:K.toNat ≤ 2 ^ f:=pow2_nat (by omega) (by omega)
  have hpw:(2:Nat) ^ (f+1) = 2 ^ f * 2:=Nat.pow_succ 2 f
  by_cases hx:old ≤ b+K
  ·rw [if_pos hx] at ep
   rw [ep,List.length_append] at hl
   obtain ⟨P',z,rfl,hl'⟩:=snoc_of (n:=(proofL f old b (b+K)).length) hl
   have hz:(proofL (f+1) old b e).zip (P' ++ [z]) = (proofL f old b (b+K)).zip P' ++ [((b+K,e),z)]:=by
    rw [ep,List.zip_append hl'.symm];rfl
   have inA:∀ s ∈ proofL f old b (b+K),b ≤ s.1 ∧ s.1 < s.2 ∧ s.2 ≤ b+K:=fun s h => proofL_in f old b (b+K) s h1 hx (by omega) h
   have hnb:said (b,e) = none:=by
    rw [hbe,hz,saidL_snoc,if_neg (by simp;omega)]
    exact zip_ne (fun s h e' => by have:=inA s h;rw [e'] at this;simp at this;omega)
   have hr:said (b+K,e) = some z:=by
    rw [hs (b+K,e) (by simp;omega) (by simp;omega) (by simp),if_neg (by simp;omega),hz,saidL_snoc,if_pos rfl]
   have hsA:∀ p:Int × Int,b ≤ p.1 → p.1 < p.2 → p.2 ≤ b+K → said p = if p = (0,old) then some before else saidL ((proofL f old b (b+K)).zip P') p:=fun p p1 p2 p3 => by
    have hne:¬ (b+K,e) = p:=fun e' => by rw [← e'] at p3;simp at p3;omega
    rw [hs p p1 p2 (by omega),hz,saidL_snoc,if_neg hne]
   have hsay:fSays said lv (f+1) b e = nodeH (fSays said lv f b (b+K)) z:=by
    rw [fSays,hnb]
    simp only [if_neg h3,hK]
    rw [fSays_said (f:=f) (lv:=lv) hr]
   by_cases ho:old = b+K
   ·subst ho
    rw [proofL_end] at hl' hsA ep
    have hKK:b+K - (2 ^ q:Nat) = b:=by rw [← hq];omega
    obtain ⟨h,hh,hP,hhb⟩:∃ h,said (b,b+K) = some h ∧ P' = (if 0 < b then [h] else []) ∧ (b = 0 → h = before):=by
     by_cases hb0:0 < b
     ·rw [if_pos hb0] at hl' hsA
      obtain ⟨h,rfl⟩:∃ h,P' = [h]:=by
       match P',hl' with
       | [h],_ => exact ⟨h,rfl⟩
      refine ⟨h,?_,by rw [if_pos hb0],fun e => by omega⟩
      rw [hsA (b,b+K) (by simp) (by simp;omega) (by simp),if_neg (by simp;omega)]
      simp [saidL]
     ·rw [if_neg hb0] at hl'
      obtain rfl:P' = []:=by simpa using hl'
      refine ⟨before,?_,by rw [if_neg hb0],fun _ => rfl⟩
      rw [hsA (b,b+K) (by simp) (by simp;omega) (by simp),if_pos (by simp;omega)]
    refine ⟨q,0,h,[z],h,by omega,rfl,?_,by rw [hKK];exact hh,?_,hnb,?_,?_,?_,?_⟩
    ·rw [hKK,hP]
    ·rw [← hq,div_one_of (by omega) (by omega),List.map_cons,List.map_nil,bot_even _ (by omega) (by omega) (by omega),bot_one _ (by omega),hsay,fSays_said hh]
     rfl
    ·intro i hi
     rw [fBare,if_neg h3,hK] at hi
     rcases hi.2 with hi | hi
     ·exact fBare_said hh hi
     ·exact fBare_said hr hi
    ·intro x hx
     rw [hz,proofL_end,hP,List.mem_append] at hx
     rcases hx with hx | hx
     ·split at hx
      ·simp at hx;subst hx
       exact ⟨hh,.inr ⟨hnb,by omega,.inl (by rw [hK];exact fReach_said hh)⟩⟩
      ·simp at hx
     ·simp at hx;subst hx
      exact ⟨hr,.inr ⟨hnb,by omega,.inr (by rw [hK];exact fReach_said hr)⟩⟩
    ·rw [hKK]
     exact .inr ⟨hnb,by omega,.inl (by rw [hK];exact fReach_said hh)⟩
    ·rw [subP,if_neg (by omega),hK,if_pos hx,List.dropLast_concat,last_snoc,subP_end,hsay,fSays_said hh,hP]
     by_cases hb0:b = 0
     ·rw [if_pos hb0,hhb hb0]
     ·rw [if_neg hb0,if_pos (by omega)];rfl
   ·obtain ⟨k,n,h,R,r0,i1,i2,i3,i4,i5,i6,i7,i8,i9,i10⟩:=cons_fold said lv old before f b (b+K) P' h0 h1 (by omega) (by omega) (by omega) hl' hsA
    have hkq:k < q:=by
     have h3:(old - b).toNat < 2 ^ q:=by omega
     have h4:2 ^ k ≤ (old - b).toNat:=by rw [i1];exact Nat.le_mul_of_pos_right _ (by omega)
     exact (Nat.pow_lt_pow_iff_right (a:=2) (by decide)).1 (by omega)
    have hbare:∀ i,¬ fBare said (f+1) b e i:=by
     intro i hi
     rw [fBare,if_neg h3,hK] at hi
     rcases hi.2 with hi | hi
     ·exact i7 i hi
     ·exact fBare_said hr hi
    have hreach:∀ x ∈ (proofL (f+1) old b e).zip (P' ++ [z]),said x.1 = some x.2 ∧ fReach said (f+1) b e x.1:=by
     intro x hx
     rw [hz,List.mem_append] at hx
     rcases hx with hx | hx
     ·exact ⟨(i8 x hx).1,.inr ⟨hnb,by omega,.inl (by rw [hK];exact (i8 x hx).2)⟩⟩
     ·simp at hx;subst hx
      exact ⟨hr,.inr ⟨hnb,by omega,.inr (by rw [hK];exact fReach_said hr)⟩⟩
    have hrk:fReach said (f+1) b e (old - (2 ^ k:Nat),old):=.inr ⟨hnb,by omega,.inl (by rw [hK];exact i9)⟩
    refine ⟨k,n,h,R ++ [z],r0,i1,i2,by rw [i3,List.append_assoc],i4,?_,hnb,hbare,hreach,hrk,by rw [subP,if_neg (by omega),hK,if_pos hx,List.dropLast_concat,last_snoc,i10,hsay]⟩
    clear hbare hreach hrk i8 i9 i4
    obtain ⟨P,hP⟩:∃ P,2 ^ k = P:=⟨_,rfl⟩
    obtain ⟨R',hR⟩:∃ R,2 ^ (q - k) = R:=⟨_,rfl⟩
    have hPR:2 ^ q = P * R':=by rw [← hP,← hR,← Nat.pow_add];congr 1;omega
    have hP0:0 < P:=by rw [← hP];exact Nat.two_pow_pos _
    have hR0:0 < R':=by rw [← hR];exact Nat.two_pow_pos _
    have hKK:(b+K - b - 1).toNat = P * R' - 1:=by omega
    have hbw:blw ((e - b - 1).toNat / P+1) = R':=by
     rw [← hR];refine level_blw hP0 ?_ ?_ <;> (rw [hR,← hPR];omega)
    have hsz:(e - b - 1).toNat / P+1 ≤ 2 ^ (f+1):=by have:=Nat.div_le_self (e - b - 1).toNat P;omega
    have h2s:2 ≤ (e - b - 1).toNat / P+1:=by have:1 ≤ (e - b - 1).toNat / P:=(Nat.le_div_iff_mul_le hP0).2 (by have:=Nat.le_mul_of_pos_right P hR0;omega);omega
    have hRf:R' ≤ 2 ^ f:=by have:=Nat.le_mul_of_pos_left R' hP0;omega
    have hnR:n < R':=by
     have:P * (n+1) < P * R':=by rw [hP] at i1;omega
     have:=Nat.lt_of_mul_lt_mul_left this;omega
    rw [hP] at i5 ⊢
    rw [hKK,level_full hP0 hR0,bot_fuel _ f (f+1) _ _ _ _ hRf (by omega)] at i5
    rw [List.map_append,List.map_cons,List.map_nil]
    have:=bot_left (node2 nodeH) (f+1) n ((e - b - 1).toNat / P+1) _ _ (sib z) _ h2s hsz (by rw [hbw];exact hnR) (by rw [hbw];exact i5)
    rw [this,hsay];rfl
  ·rw [if_neg hx] at ep
   rw [ep,List.length_append] at hl
   obtain ⟨P',z,rfl,hl'⟩:=snoc_of (n:=(proofL f old (b+K) e).length) hl
   have hz:(proofL (f+1) old b e).zip (P' ++ [z]) = (proofL f old (b+K) e).zip P' ++ [((b,b+K),z)]:=by
    rw [ep,List.zip_append hl'.symm];rfl
   have inA:∀ s ∈ proofL f old (b+K) e,b+K ≤ s.1 ∧ s.1 < s.2 ∧ s.2 ≤ e:=fun s h => proofL_in f old (b+K) e s (by omega) (by omega) (by omega) h
   have hnb:said (b,e) = none:=by
    rw [hbe,hz,saidL_snoc,if_neg (by simp;omega)]
    exact zip_ne (fun s h e' => by have:=inA s h;rw [e'] at this;simp at this;omega)
   have hr:said (b,b+K) = some z:=by
    rw [hs (b,b+K) (by simp) (by simp;omega) (by simp;omega),if_neg (by simp;omega),hz,saidL_snoc,if_pos rfl]
   have hsA:∀ p:Int × Int,b+K ≤ p.1 → p.1 < p.2 → p.2 ≤ e → said p = if p = (0,old) then some before else saidL ((proofL f old (b+K) e).zip P') p:=fun p p1 p2 p3 => by
    have hne:¬ (b,b+K) = p:=fun e' => by rw [← e'] at p1;simp at p1;omega
    rw [hs p (by omega) p2 p3,hz,saidL_snoc,if_neg hne]
   have hsay:fSays said lv (f+1) b e = nodeH z (fSays said lv f (b+K) e):=by
    rw [fSays,hnb]
    simp only [if_neg h3,hK]
    rw [fSays_said (f:=f) (lv:=lv) hr]
   obtain ⟨k,n,h,R,r0,i1,i2,i3,i4,i5,i6,i7,i8,i9,i10⟩:=cons_fold said lv old before f (b+K) e P' (by omega) (by omega) h2 (by omega) (by omega) hl' hsA
   have hkq:k < q:=by
    have h3:(old - (b+K)).toNat < 2 ^ q:=by omega
    have h4:2 ^ k ≤ (old - (b+K)).toNat:=by rw [i1];exact Nat.le_mul_of_pos_right _ (by omega)
    exact (Nat.pow_lt_pow_iff_right (a:=2) (by decide)).1 (by omega)
   have hbare:∀ i,¬ fBare said (f+1) b e i:=by
    intro i hi
    rw [fBare,if_neg h3,hK] at hi
    rcases hi.2 with hi | hi
    ·exact fBare_said hr hi
    ·exact i7 i hi
   have hreach:∀ x ∈ (proofL (f+1) old b e).zip (P' ++ [z]),said x.1 = some x.2 ∧ fReach said (f+1) b e x.1:=by
    intro x hx
    rw [hz,List.mem_append] at hx
    rcases hx with hx | hx
    ·exact ⟨(i8 x hx).1,.inr ⟨hnb,by omega,.inr (by rw [hK];exact (i8 x hx).2)⟩⟩
    ·simp at hx;subst hx
     exact ⟨hr,.inr ⟨hnb,by omega,.inl (by rw [hK];exact fReach_said hr)⟩⟩
   have hrk:fReach said (f+1) b e (old - (2 ^ k:Nat),old):=.inr ⟨hnb,by omega,.inr (by rw [hK];exact i9)⟩
   obtain ⟨P,hP⟩:∃ P,2 ^ k = P:=⟨_,rfl⟩
   obtain ⟨R',hR⟩:∃ R,2 ^ (q - k) = R:=⟨_,rfl⟩
   have hPR:2 ^ q = P * R':=by rw [← hP,← hR,← Nat.pow_add];congr 1;omega
   have hP0:0 < P:=by rw [← hP];exact Nat.two_pow_pos _
   have hR0:0 < R':=by rw [← hR];exact Nat.two_pow_pos _
   have hR2:R' % 2 = 0:=by rw [← hR,show q - k = (q - k - 1)+1 by omega,Nat.pow_succ];omega
   refine ⟨k,n+R',h,R ++ [z],nodeH z r0,?_,by omega,by rw [i3,List.append_assoc],i4,?_,hnb,hbare,hreach,hrk,by rw [subP,if_neg (by omega),hK,if_neg hx,List.dropLast_concat,last_snoc,i10,hsay]⟩
   ·rw [hP] at i1 ⊢
    rw [show n+R'+1 = (n+1)+R' by omega,Nat.mul_add,← i1,← hPR];omega
   ·clear hbare hreach hrk i8 i9 i4 i3
    have hbw:blw ((e - b - 1).toNat / P+1) = R':=by
     rw [← hR];refine level_blw hP0 ?_ ?_ <;> (rw [hR,← hPR];omega)
    have hsz:(e - b - 1).toNat / P+1 ≤ 2 ^ (f+1):=by have:=Nat.div_le_self (e - b - 1).toNat P;omega
    have h2s:2 ≤ (e - b - 1).toNat / P+1:=by have:1 ≤ (e - b - 1).toNat / P:=(Nat.le_div_iff_mul_le hP0).2 (by have:=Nat.le_mul_of_pos_right P hR0;omega);omega
    have hdv:(e - b - 1).toNat / P = (e - (b+K) - 1).toNat / P+R':=by
     rw [show (e - b - 1).toNat = (e - (b+K) - 1).toNat+P * R' by omega,Nat.add_mul_div_left _ _ hP0]
    have hle:n ≤ (e - (b+K) - 1).toNat / P:=(Nat.le_div_iff_mul_le hP0).2 (by
     rw [hP] at i1
     have:n * P+P = P * (n+1):=by rw [Nat.mul_add,Nat.mul_comm];simp
     omega)
    have hRf:(e - (b+K) - 1).toNat / P+1 ≤ 2 ^ f:=by have:=Nat.div_le_self (e - (b+K) - 1).toNat P;omega
    rw [hP] at i5 ⊢
    rw [bot_fuel _ f (f+1) _ _ _ _ hRf (by omega)] at i5
    rw [List.map_append,List.map_cons,List.map_nil]
    have:=bot_right (node2 nodeH) (f+1) (n+R') ((e - b - 1).toNat / P+1) _ _ (sib z) _ h2s hsz (by rw [hbw];omega) (by omega) (by rw [hbw,show n+R' - R' = n by omega,show (e - b - 1).toNat / P+1 - R' = (e - (b+K) - 1).toNat / P+1 by omega];exact i5)
    rw [this,hsay];rfl
theorem odd_part {k n k' n':Nat} (h:2 ^ k * (n+1) = 2 ^ k' * (n'+1)) (e:n % 2 = 0) (e':n' % 2 = 0):k = k' ∧ n = n':=by
 have key:∀ {k n k' n':Nat},2 ^ k * (n+1) = 2 ^ k' * (n'+1) → n % 2 = 0 → ¬ k < k':=by
  intro k n k' n' h e hlt
  rw [show k' = k+(k' - k - 1+1) by omega,Nat.pow_add,Nat.mul_assoc] at h
  have:=Nat.eq_of_mul_eq_mul_left (Nat.two_pow_pos k) h
  rw [Nat.pow_succ,Nat.mul_assoc,Nat.mul_left_comm] at this
  omega
 have h1:=key h e
 have h2:=key h.symm e'
 obtain rfl:k = k':=by omega
 have:=Nat.eq_of_mul_eq_mul_left (Nat.two_pow_pos k) h
 exact ⟨rfl,by omega⟩
theorem Says.same {α:Type} {node:α → α → α} {n l:Nat} {h r r':α} {ps:List α} (a:Says node n l h ps r) (b:Says node n l h ps r'):r = r':=by
 obtain ⟨f,hf,hb⟩:=a
 obtain ⟨g,hg,hb'⟩:=b
 rw [bot_fuel node f g _ _ _ _ hf hg,hb'] at hb
 exact (Option.some.inj hb).symm
def mapC (old sz:Nat) (before:List UInt8) (P:List (List UInt8)):List ((Int × Int) × List UInt8):=(proofL 64 old 0 sz).zip P ++ [((0,(old:Int)),before)]
theorem mapC_said (old sz:Nat) (before:List UInt8) (P:List (List UInt8)) (p:Int × Int):saidL (mapC old sz before P) p = if p = (0,(old:Int)) then some before else saidL ((proofL 64 old 0 sz).zip P) p:=by
 unfold mapC
 rw [saidL_snoc]
 by_cases h:p = (0,(old:Int))
 ·rw [if_pos h,if_pos h.symm]
 ·rw [if_neg h,if_neg (fun e => h e.symm)]
def newR (old sz:Nat) (before:List UInt8) (P:List (List UInt8)):List UInt8:=fSays (saidL (mapC old sz before P)) (claimLeaf [] 0) 64 0 sz
def CF (old sz:Nat) (before:List UInt8) (P:List (List UInt8)) (k n:Nat) (h:List UInt8) (R:List (List UInt8)) (r0:List UInt8):Prop :=
 old = 2 ^ k * (n+1) ∧ n % 2 = 0 ∧ P = (if old = 2 ^ k then [] else [h]) ++ R ∧ (old = 2 ^ k → h = before) ∧ h.length = 32 ∧ CSays nodeH n ((sz - 1) / 2 ^ k) h h R r0 (newR old sz before P)
theorem cons_cf {old sz:Nat} {before:List UInt8} {P:List (List UInt8)} (h0:0 < old) (h1:old < sz) (h2:sz ≤ 9223372036854775808) (hl:P.length = (proofL 64 old 0 sz).length) (h32:H32 P) (hb32:before.length = 32) :
 ∃ k n h R r0,CF old sz before P k n h R r0 ∧ saidL (mapC old sz before P) ((old:Int) - (2 ^ k:Nat),old) = some h ∧ saidL (mapC old sz before P) (0,(sz:Int)) = none ∧ (∀ i,¬ fBare (saidL (mapC old sz before P)) 64 0 sz i) ∧
  (∀ x ∈ (proofL 64 old 0 sz).zip P,saidL (mapC old sz before P) x.1 = some x.2 ∧ fReach (saidL (mapC old sz before P)) 64 0 sz x.1) ∧ fReach (saidL (mapC old sz before P)) 64 0 sz ((old:Int) - (2 ^ k:Nat),old) ∧ subP before 64 old 0 sz P = (r0,newR old sz before P):=by
 obtain ⟨k,n,h,R,r0,i1,i2,i3,i4,i5,i6,i7,i8,i9,i10⟩:=cons_fold (saidL (mapC old sz before P)) (claimLeaf [] 0) old before 64 0 sz P (by omega) (by omega) (by omega) (by rw [pow2_64];omega) (by omega) hl (fun p _ _ _ => mapC_said old sz before P p)
 have hM:old = 2 ^ k * (n+1):=by have:=i1;omega
 have hPM:2 ^ k ≤ old:=by rw [hM];exact Nat.le_mul_of_pos_right _ (by omega)
 have hk1:((2 ^ k:Nat):Int) ≤ old:=by omega
 have hh32:h.length = 32:=by
  rw [mapC_said] at i4
  split at i4
  ·obtain rfl:=Option.some.inj i4;exact hb32
  ·exact zip_32 h32 _ _ i4
 refine ⟨k,n,h,R,r0,⟨hM,i2,?_,?_,hh32,?_⟩,i4,i6,i7,i8,i9,i10⟩
 ·rw [i3]
  by_cases e:old = 2 ^ k
  ·rw [if_pos e,if_neg (by omega)]
  ·rw [if_neg e,if_pos (by omega)]
 ·intro e
  rw [mapC_said,show (old:Int) - (2 ^ k:Nat) = 0 by omega,if_pos rfl] at i4
  exact (Option.some.inj i4).symm
 ·refine ⟨64,by have:=Nat.div_le_self (sz - 1) (2 ^ k);omega,?_⟩
  rw [show ((sz:Int) - 0 - 1).toNat = sz - 1 by omega] at i5
  exact i5
def verC (old sz:Nat) (L:List ByteArray) (before:List UInt8) (P:List (List UInt8)):Prop :=
 P.length = (proofL 64 old 0 sz).length ∧ (∃ k n h R,CF old sz before P k n h R before) ∧ newR old sz before P = treeB L 0 sz
theorem map_zip {α β:Type} (g:α → β):∀ (l:List α) (P:List β),P.length = l.length → (∀ x ∈ l.zip P,x.2 = g x.1) → P = l.map g
 | [],[],_,_ => rfl
 | [],y :: r,h,_ => by simp at h
 | x :: l,[],h,_ => by simp at h
 | x :: l,y :: r,h,hx => by
  rw [List.map_cons,← map_zip g l r (by simpa using h) (fun z hz => hx z (by simp [hz]))]
  have:=hx (x,y) (by simp)
  simp at this
  rw [this]
theorem claim_cons {L:List ByteArray} {before:List UInt8} {P:List (List UInt8)} {old sz:Nat} (hL:LogOk L) (h0:0 < old) (h1:old < sz) (hs:sz ≤ L.length) (hv:verC old sz L before P) (hne:before ≠ treeB L 0 old) (h32:H32 P) (hb32:before.length = 32) :
 (∃ r,fWalk (saidL (mapC old sz before P)) (claimLeaf [] 0) L (logText L) (claimText [] 0) 64 0 sz = some r ∧ r.1 ≠ r.2 ∧ shaB r.1 = shaB r.2 ∧ r.1.length ≤ 10000001 ∧ r.2.length ≤ 10000001) ∧
 ∀ i,¬ fBare (saidL (mapC old sz before P)) 64 0 sz i:=by
 have hL1:=hL.1
 obtain ⟨k,n,h,R,r0,⟨c1,c2,c3,c4,c5,c6⟩,i4,i6,i7,i8,i9,_⟩:=cons_cf (P:=P) (before:=before) h0 h1 (by omega) hv.1 h32 hb32
 obtain ⟨k',n',h',R',d1,d2,d3,d4,d5,d6⟩:=hv.2.1
 have hroot:=hv.2.2
 unfold newR at hroot
 have hs32:∀ p x,saidL (mapC old sz before P) p = some x → x.length = 32:=fun p x q => by
  rw [mapC_said] at q
  split at q
  ·obtain rfl:=Option.some.inj q;exact hb32
  ·exact zip_32 h32 _ _ q
 have h64:(sz:Int) - 0 ≤ pow2 64:=by rw [pow2_64];omega
 refine ⟨?_,i7⟩
 cases q:fWalk (saidL (mapC old sz before P)) (claimLeaf [] 0) L (logText L) (claimText [] 0) 64 0 sz with
 | some r =>
  have ht:=fWalk_two _ (claimLeaf [] 0) L (logText L) (claimText [] 0) (leafG_text L) (claim_text [] 0) hs32 64 0 sz (by omega) h64 (by omega) i6 hroot r q
  have hl:=fWalk_len _ (claimLeaf [] 0) L (logText L) (claimText [] 0) 10000000 (by omega) (fun i => by unfold logText;rw [bOf_length];have:=getD_size hL.2 i.toNat;omega) (fun i => by unfold claimText;rw [bOf_length];exact getD_size (M:=10000000) (fun s hs => by simp at hs) _) (fun i => leafH_length _) hs32 64 0 sz r q
  exact ⟨r,rfl,ht.1,ht.2,hl.1,hl.2⟩
 | none =>
  exfalso
  have ha:=fWalk_reach _ (claimLeaf [] 0) L (logText L) (claimText [] 0) hs32 (fun i => leafH_length _) 64 0 sz (by omega) h64 (by omega) hroot q
  have hP:P = treesB L (proofL 64 old 0 sz):=by
   unfold treesB
   exact map_zip _ _ _ hv.1 (fun x hx => by
    have:=i8 x hx
    exact ha x.1 this.2 x.2 this.1)
  have hh:=ha _ i9 h i4
  obtain ⟨k2,n2,g,rest,e1,e2,e3,e4,e5,e6⟩:=logs_cons L old sz (by omega) h0 h1
  obtain ⟨rfl,rfl⟩:=odd_part (e1.symm.trans d1) e2 d2
  obtain ⟨rfl,rfl⟩:=odd_part (e1.symm.trans c1) e2 c2
  rw [← hP,d3] at e3
  by_cases e:old = 2 ^ k2
  ·refine hne ?_
   rw [← c4 e,hh]
   congr 1
   simp only
   omega
  ·rw [if_neg e,if_neg e] at e3
   simp only [List.cons_append,List.nil_append,List.cons.injEq] at e3
   obtain ⟨rfl,rfl⟩:=e3
   exact hne (congrArg (fun x => x.2.1) (Says.same d6 e6))
theorem verC_sub {L:List ByteArray} {before:List UInt8} {P:List (List UInt8)} {old sz:Nat} (h0:0 < old) (h1:old < sz) (h2:sz ≤ 9223372036854775808) (h32:H32 P) (hb32:before.length = 32) (hl:P.length = (proofL 64 old 0 sz).length) :
 verC old sz L before P ↔ subP before 64 old 0 sz P = (before,treeB L 0 sz):=by
 obtain ⟨k,n,h,R,r0,c,_,_,_,_,_,i10⟩:=cons_cf (P:=P) (before:=before) h0 h1 h2 hl h32 hb32
 rw [i10]
 refine ⟨fun hv => ?_,fun e => ?_⟩
 ·obtain ⟨_,⟨k',n',h',R',d1,d2,d3,d4,d5,d6⟩,d7⟩:=hv
  obtain ⟨c1,c2,c3,c4,c5,c6⟩:=c
  obtain ⟨rfl,rfl⟩:=odd_part (d1.symm.trans c1) d2 c2
  rw [d3] at c3
  have:r0 = before:=by
   by_cases e:old = 2 ^ k'
   ·rw [if_pos e,if_pos e] at c3
    simp only [List.nil_append] at c3
    subst c3
    obtain rfl:h = h':=by rw [c4 e,d4 e]
    exact congrArg (fun x => x.2.1) (Says.same c6 d6)
   ·rw [if_neg e,if_neg e] at c3
    simp only [List.cons_append,List.nil_append,List.cons.injEq] at c3
    obtain ⟨rfl,rfl⟩:=c3
    exact congrArg (fun x => x.2.1) (Says.same c6 d6)
  rw [this,d7]
 ·have e1:=congrArg Prod.fst e
  have e2:=congrArg Prod.snd e
  simp only at e1 e2
  subst e1
  exact ⟨hl,⟨k,n,h,R,c⟩,e2⟩
theorem cons_not {old sz:Nat} {before:List UInt8} {P:List (List UInt8)} (h0:0 < old) (h1:old < sz) (h2:sz ≤ 9223372036854775808) (hl:P.length ≠ (proofL 64 old 0 sz).length) (h32:H32 P) (hb32:before.length = 32) :
 ∃ k n,old = 2 ^ k * (n+1) ∧ n % 2 = 0 ∧ ((n ≠ 0 ∧ P = []) ∨ ∃ h R,P = (if old = 2 ^ k then [] else [h]) ++ R ∧ (old = 2 ^ k → h = before) ∧ h.length = 32 ∧ CSaysN nodeH n ((sz - 1) / 2 ^ k) h h R):=by
 obtain ⟨k,n,g,Rz,r0,⟨c1,c2,c3,c4,c5,c6⟩,_⟩:=cons_cf (P:=List.replicate (proofL 64 old 0 sz).length zeroH) (before:=before) h0 h1 h2 (by simp) (fun x hx => by rw [(List.mem_replicate.1 hx).2];exact zeroH_length) hb32
 refine ⟨k,n,c1,c2,?_⟩
 have hrl:∀ h R,P = (if old = 2 ^ k then [] else [h]) ++ R → CSaysN nodeH n ((sz - 1) / 2 ^ k) h h R:=by
  intro h R hR
  refine ⟨64,by have:=Nat.div_le_self (sz - 1) (2 ^ k);omega,?_⟩
  cases q:bot (node2 nodeH) (64+1) n ((sz - 1) / 2 ^ k+1) (false,h,h) (R.map sib) with
  | none => rfl
  | some r =>
   exfalso
   obtain ⟨f,hf,hb⟩:=c6
   rw [bot_fuel _ f 64 _ _ _ _ hf (by have:=Nat.div_le_self (sz - 1) (2 ^ k);omega)] at hb
   have:=bot_len (node2 nodeH) (node2 nodeH) 65 n ((sz - 1) / 2 ^ k+1) _ _ r _ _ _ q hb
   rw [List.length_map,List.length_map] at this
   refine hl ?_
   have e1:=congrArg List.length c3
   have e2:=congrArg List.length hR
   rw [List.length_replicate,List.length_append] at e1
   rw [List.length_append] at e2
   rw [e1,e2,this]
   split <;> rfl
 by_cases e:old = 2 ^ k
 ·refine .inr ⟨before,P,by rw [if_pos e];rfl,fun _ => rfl,hb32,hrl before P (by rw [if_pos e];rfl)⟩
 ·cases P with
  | nil => exact .inl ⟨fun hn => e (by rw [c1,hn];omega),rfl⟩
  | cons h R => exact .inr ⟨h,R,by rw [if_neg e];rfl,fun q => absurd q e,h32 h (by simp),hrl h R (by rw [if_neg e];rfl)⟩
/- forge.Consistency, whatever is handed in. Condition: the package-level variables read as listed. -/
def okC (old sz:Nat) (L:List ByteArray) (b0:List UInt8) (P:List (List UInt8)):Prop:=0 < old ∧ old ≤ sz ∧ (old = sz → P = [] ∧ b0 = treeB L 0 sz) ∧ (old < sz → verC old sz L b0 P)
theorem vcons_fail (a:Nat → Addr) (B old sz:Nat) (L:List ByteArray) (b0:List UInt8) (P:List (List UInt8)) (A:Option Addr) (m c:Nat) (w:World) (hE:Env B a w) (hs:sz ≤ 9223372036854775808) (hb:b0.length = 32) (hp:HIn w A m c P) (hm:m ≤ 1000000000) (hvv:¬ okC old sz L b0 P) :
 Calls Tryz.prog 42 #[.int .u64 old,.int .u64 sz,hv b0,hv (treeB L 0 sz),.slice A m c] w fun ev w' => ev = .returned (errV a (if old = 0 ∨ sz < old then 5 else 10)) ∧ Below w.heap.size w w':=by
 have hr:=treeB_len L 0 sz
 by_cases h1:old = 0 ∨ sz < old
 ·rw [if_pos h1]
  exact vcons_off a B old sz b0 _ A m c P w hE hb hr hp h1 hs
 ·rw [if_neg h1]
  by_cases h2:old = sz
  ·refine vcons_unlike a B old sz b0 _ A m c P w hE hb hr hp h2 (by omega) hs ?_ hm
   intro q
   refine hvv ⟨by omega,by omega,fun _ => ⟨?_,q.2⟩,fun q => by omega⟩
   have:=hp.2.1;rw [q.1] at this
   exact List.length_eq_zero_iff.1 this
  ·by_cases hl:P.length = (proofL 64 old 0 sz).length
   ·obtain ⟨k,n,h,R,r0,⟨c1,c2,c3,c4,c5,c6⟩,_⟩:=cons_cf (P:=P) (before:=b0) (by omega) (by omega) hs hl hp.1 hb
    refine vcons_other a B old sz b0 _ A m c P w hE hb hr hp c1 c2 (by omega) hs c3 c4 c5 r0 (newR old sz b0 P) ?_ c6 hm
    intro q
    refine hvv ⟨by omega,by omega,fun q => by omega,fun _ => ⟨hl,⟨k,n,h,R,c1,c2,c3,c4,c5,?_⟩,q.2⟩⟩
    rw [q.1] at c6;exact c6
   ·obtain ⟨k,n,c1,c2,hc⟩:=cons_not (P:=P) (before:=b0) (by omega) (by omega) hs hl hp.1 hb
    rcases hc with ⟨hn,hP⟩ | ⟨h,R,c3,c4,c5,c6⟩
    ·exact vcons_empty a B old sz b0 _ A m c P w hE hb hr hp c1 c2 hn (by omega) hs hP
    ·exact vcons_none a B old sz b0 _ A m c P w hE hb hr hp c1 c2 (by omega) hs c3 c4 c5 c6 hm
theorem vcons_good (a:Nat → Addr) (B old sz:Nat) (L:List ByteArray) (b0:List UInt8) (P:List (List UInt8)) (A:Option Addr) (m c:Nat) (w:World) (hE:Env B a w) (hs:sz ≤ 9223372036854775808) (hb:b0.length = 32) (hp:HIn w A m c P) (hm:m ≤ 1000000000) (hvv:okC old sz L b0 P) :
 Calls Tryz.prog 42 #[.int .u64 old,.int .u64 sz,hv b0,hv (treeB L 0 sz),.slice A m c] w fun ev w' => ev = .returned .nilIface ∧ Below w.heap.size w w':=by
 have hr:=treeB_len L 0 sz
 obtain ⟨v1,v2,v3,v4⟩:=hvv
 by_cases h2:old = sz
 ·exact vcons_same a B old sz b0 _ A m c P w hE hb hr hp h2 v1 hs (v3 h2).1 (v3 h2).2
 ·obtain ⟨hl,⟨k,n,h,R,c1,c2,c3,c4,c5,c6⟩,hR⟩:=v4 (by omega)
  rw [hR] at c6
  exact vcons_ok a B old sz b0 _ A m c P w hE hb hr hp c1 c2 (by omega) hs c3 c4 c5 c6 hm
theorem fcon_bad (a:Nat → Addr) (B base b:Nat) (v:Value) (L:List ByteArray) (old sz:Nat) (b0:List UInt8) (P:List (List UInt8)) (A:Option Addr) (m c:Nat) (w:World) (hE:Env B a w) (h:LogAt base b v L w) (hs:sz ≤ L.length) (ho:old < 18446744073709551616) (hb:b0.length = 32) (hp:HIn w A m c P) (hm9:m ≤ 1000000000) (hvv:¬ okC old sz L b0 P) :
 Calls Tryz.prog 13 #[.pointer (some ⟨b,0,none⟩),.int .u64 old,.int .u64 sz,hv b0,.slice A m c] w fun ev w' => ev = .returned (.tuple #[.string ⟨#[]⟩,.string ⟨#[]⟩,.bool false]) ∧ Below w.heap.size w w':=by
 have hL:=h.1.1
 obtain ⟨vr,evr,Hvr,Zvr,Ivr,Ovr⟩:=row_of (treeB L 0 sz) (treeB_len _ _ _)
 obtain ⟨vh,evh,Hvh,Zvh,Ivh,Ovh⟩:=row_of b0 hb
 have HRT:Hid (∀ w,Env B a w → LogAt base b v L w → Calls Tryz.prog 20 #[.pointer (some ⟨b,0,none⟩),.int .u64 sz] w fun ev w' => ev = .returned (.tuple #[.agg vr,.nilIface]) ∧ Below w.heap.size w w'):=hid (fun w e q => by
  have:=lroot_ok a B base b v L sz w e q (by omega) (by omega)
  rw [evr] at this;exact this)
 obtain ⟨qe,HVE⟩:∃ qe,errV a (if old = 0 ∨ sz < old then 5 else 10) = .iface 203 (.pointer (some qe)):=⟨_,rfl⟩
 have HCO:Hid (∀ w,Env B a w → HIn w A m c P → Calls Tryz.prog 42 #[.int .u64 old,.int .u64 sz,.agg vh,.agg vr,.slice A m c] w fun ev w' => ev = .returned (.iface 203 (.pointer (some qe))) ∧ Below w.heap.size w w'):=hid (fun w e q => by
  have:=vcons_fail a B old sz L b0 P A m c w e (by omega) hb q hm9 hvv
  rw [evh,evr,HVE] at this;exact this)
 have HE:=hid hE
 have HL:=hid h
 have HP:=hid hp
 rw [evh]
 have R8:Hid ((w.alloc (.cells vh 39)).heap[w.heap.size]? = some (.cells vh 39 (0,0))):=hid (heap_at _ _ _ rfl)
 have HB0:Hid (Below w.heap.size w (w.alloc (.cells vh 39))):=hid ((Below.refl _ _).alloc (Nat.le_refl _) _)
 have HS0:Hid (w.heap.size < (w.alloc (.cells vh 39)).heap.size):=hid (by simp)
 obtain ⟨wv,hwv⟩:∃ x,w.alloc (.cells vh 39) = x:=⟨_,rfl⟩
 rw [hwv] at R8 HB0 HS0
 have HWV:=hid hwv
 clear hwv
 clear hE h hp evr evh hs hvv hL hb hm9 ho HVE
 go_enter Tryz.func13,Tryz.ntmps13
 go_upto_region 1 with fail
 rw [HWV.out]
 go_wp2_with fail
 refine (HRT.out wv (HE.out.step HB0.out) (HL.out.below HB0.out)).mono ?_
 rintro ev w1 ⟨rfl,b1⟩
 go_upto_region 2 with (refine wpList_store_row_any rfl 39 _ _ rfl w1.heap.size vr rfl rfl 39 _ (heap_at _ _ _ rfl) Ivr.out (by rw [Zvr.out];rfl) Ovr.out ?_;intro w2 hbN hgN hsN;have b2:Below w1.heap.size w1 w2:=((Below.refl _ w1).alloc (Nat.le_refl _) _).trans (hbN.to_below (by simp) (fun k hk q => by omega));have Rw2:=hid hgN;clear hbN hgN hsN)
 have BV2:Hid (Below wv.heap.size wv w2):=hid (b1.trans (b2.mono b1.size))
 have HB2:Hid (Below w.heap.size w w2):=hid (HB0.out.trans (BV2.out.mono HB0.out.size))
 have R82:Hid (w2.heap[w.heap.size]? = some (.cells vh 39 (0,0))):=hid ((BV2.out.block _ HS0.out).trans R8.out)
 clear b1 b2
 go_wp2_with (first
  | (refine wpList_load_row_g rfl 39 _ rfl w.heap.size rfl 39 vh (0,0) _ R82.out Tryz.underlying39 rfl Ivh.out ?_)
  | (refine wpList_load_row_g rfl 39 _ rfl w1.heap.size rfl 39 vr (0,0) _ Rw2.out Tryz.underlying39 rfl Ivr.out ?_))
 refine (HCO.out w2 (HE.out.step HB2.out) (HP.out.below HB2.out)).mono ?_
 rintro ev w3 ⟨rfl,b3⟩
 have HB3:Hid (Below w.heap.size w w3):=hid (HB2.out.trans (b3.mono HB2.out.size))
 have B23:=hid b3
 clear b3
 go_wp2_with fail
 go_ret3
 exact ⟨rfl,HB3.out⟩
theorem fcon_same (a:Nat → Addr) (B base b:Nat) (v:Value) (L:List ByteArray) (old sz:Nat) (b0:List UInt8) (P:List (List UInt8)) (A:Option Addr) (m c:Nat) (w:World) (hE:Env B a w) (h:LogAt base b v L w) (hs:sz ≤ L.length) (ho:old < 18446744073709551616) (hb:b0.length = 32) (hp:HIn w A m c P) (hm9:m ≤ 1000000000) (hvv:okC old sz L b0 P) (hsm:b0 = treeB L 0 old) :
 Calls Tryz.prog 13 #[.pointer (some ⟨b,0,none⟩),.int .u64 old,.int .u64 sz,hv b0,.slice A m c] w fun ev w' => (∃ s,ev = .returned (.tuple #[.string s,.string s,.bool false]) ∧ bOf s = soB L sz) ∧ Below w.heap.size w w':=by
 have hL:=h.1.1
 obtain ⟨vr,evr,Hvr,Zvr,Ivr,Ovr⟩:=row_of (treeB L 0 sz) (treeB_len _ _ _)
 obtain ⟨vh,evh,Hvh,Zvh,Ivh,Ovh⟩:=row_of b0 hb
 have HRT:Hid (∀ w,Env B a w → LogAt base b v L w → Calls Tryz.prog 20 #[.pointer (some ⟨b,0,none⟩),.int .u64 sz] w fun ev w' => ev = .returned (.tuple #[.agg vr,.nilIface]) ∧ Below w.heap.size w w'):=hid (fun w e q => by
  have:=lroot_ok a B base b v L sz w e q (by omega) (by omega)
  rw [evr] at this;exact this)
 have HCO:Hid (∀ w,Env B a w → HIn w A m c P → Calls Tryz.prog 42 #[.int .u64 old,.int .u64 sz,.agg vh,.agg vr,.slice A m c] w fun ev w' => ev = .returned .nilIface ∧ Below w.heap.size w w'):=hid (fun w e q => by
  have:=vcons_good a B old sz L b0 P A m c w e (by omega) hb q hm9 hvv
  rw [evh,evr] at this;exact this)
 have h0:0 < old:=hvv.1
 have h1:old ≤ sz:=hvv.2.1
 have HN:=hid (show 0 < sz ∧ sz ≤ L.length by omega)
 obtain ⟨vo,evo,Hvo,Zvo,Ivo,Ovo⟩:=row_of (treeB L 0 old) (treeB_len _ _ _)
 have HRO:Hid (∀ w,Env B a w → LogAt base b v L w → Calls Tryz.prog 20 #[.pointer (some ⟨b,0,none⟩),.int .u64 old] w fun ev w' => ev = .returned (.tuple #[.agg vo,.nilIface]) ∧ Below w.heap.size w w'):=hid (fun w e q => by
  have:=lroot_ok a B base b v L old w e q (by omega) (by omega)
  rw [evo] at this;exact this)
 have hq:∀ w,(Op.equalIn 10000 39 (.agg vo) (.agg vh)).run Tryz.prog w = .ok true w:=fun w => by rw [eq_hash _ _ (treeB_len L 0 old) hb vo vh evo evh w];simp [hsm]
 have HE:=hid hE
 have HL:=hid h
 have HP:=hid hp
 rw [evh]
 have R8:Hid ((w.alloc (.cells vh 39)).heap[w.heap.size]? = some (.cells vh 39 (0,0))):=hid (heap_at _ _ _ rfl)
 have HB0:Hid (Below w.heap.size w (w.alloc (.cells vh 39))):=hid ((Below.refl _ _).alloc (Nat.le_refl _) _)
 have HS0:Hid (w.heap.size < (w.alloc (.cells vh 39)).heap.size):=hid (by simp)
 obtain ⟨wv,hwv⟩:∃ x,w.alloc (.cells vh 39) = x:=⟨_,rfl⟩
 rw [hwv] at R8 HB0 HS0
 have HWV:=hid hwv
 clear hwv
 clear hE h hp evr evh hs hvv hL hb hm9 ho hsm h0 h1 evo
 go_enter Tryz.func13,Tryz.ntmps13
 go_upto_region 1 with fail
 rw [HWV.out]
 go_wp2_with fail
 refine (HRT.out wv (HE.out.step HB0.out) (HL.out.below HB0.out)).mono ?_
 rintro ev w1 ⟨rfl,b1⟩
 go_upto_region 2 with (refine wpList_store_row_any rfl 39 _ _ rfl w1.heap.size vr rfl rfl 39 _ (heap_at _ _ _ rfl) Ivr.out (by rw [Zvr.out];rfl) Ovr.out ?_;intro w2 hbN hgN hsN;have b2:Below w1.heap.size w1 w2:=((Below.refl _ w1).alloc (Nat.le_refl _) _).trans (hbN.to_below (by simp) (fun k hk q => by omega));have Rw2:=hid hgN;clear hbN hgN hsN)
 have BV2:Hid (Below wv.heap.size wv w2):=hid (b1.trans (b2.mono b1.size))
 have HB2:Hid (Below w.heap.size w w2):=hid (HB0.out.trans (BV2.out.mono HB0.out.size))
 have R82:Hid (w2.heap[w.heap.size]? = some (.cells vh 39 (0,0))):=hid ((BV2.out.block _ HS0.out).trans R8.out)
 clear b1 b2
 go_wp2_with (first
  | (refine wpList_load_row_g rfl 39 _ rfl w.heap.size rfl 39 vh (0,0) _ R82.out Tryz.underlying39 rfl Ivh.out ?_)
  | (refine wpList_load_row_g rfl 39 _ rfl w1.heap.size rfl 39 vr (0,0) _ Rw2.out Tryz.underlying39 rfl Ivr.out ?_))
 refine (HCO.out w2 (HE.out.step HB2.out) (HP.out.below HB2.out)).mono ?_
 rintro ev w3 ⟨rfl,b3⟩
 have HB3:Hid (Below w.heap.size w w3):=hid (HB2.out.trans (b3.mono HB2.out.size))
 have B23:=hid b3
 clear b3
 go_wp2_with fail
 refine (HRO.out w3 (HE.out.step HB3.out) (HL.out.below HB3.out)).mono ?_
 rintro ev w4 ⟨rfl,b4⟩
 go_upto_region 5 with (refine wpList_store_row_any rfl 39 _ _ rfl w4.heap.size vo rfl rfl 39 _ (heap_at _ _ _ rfl) Ivo.out (by rw [Zvo.out];rfl) Ovo.out ?_;intro w5 hbN hgN hsN;have b5:Below w4.heap.size w4 w5:=((Below.refl _ w4).alloc (Nat.le_refl _) _).trans (hbN.to_below (by simp) (fun k hk q => by omega));have Rw5:=hid hgN;clear hbN hgN hsN)
 have B35:Hid (Below w3.heap.size w3 w5):=hid (b4.trans (b5.mono b4.size))
 have HB5:Hid (Below w.heap.size w w5):=hid (HB3.out.trans (B35.out.mono HB3.out.size))
 have R85:Hid (w5.heap[w.heap.size]? = some (.cells vh 39 (0,0))):=hid ((B35.out.block _ (Nat.lt_of_lt_of_le (Array.getElem?_eq_some_iff.1 R82.out).1 B23.out.size)).trans ((B23.out.block _ (Array.getElem?_eq_some_iff.1 R82.out).1).trans R82.out))
 clear b4 b5
 go_wp2_with (first
  | (refine wpList_load_row_g rfl 39 _ rfl w4.heap.size rfl 39 vo (0,0) _ Rw5.out Tryz.underlying39 rfl Ivo.out ?_)
  | (refine wpList_load_row_g rfl 39 _ rfl w.heap.size rfl 39 vh (0,0) _ R85.out Tryz.underlying39 rfl Ivh.out ?_))
 refine (so_any a B base b v L sz w5 (HE.out.step HB5.out) (HL.out.below HB5.out) HN.out.1 HN.out.2).mono ?_
 rintro ev w7 ⟨⟨s,rfl,q1⟩,b7⟩
 have HQ:=hid q1
 clear q1
 go_wp2
 go_ret3
 exact ⟨⟨s,rfl,HQ.out⟩,HB5.out.trans (b7.mono HB5.out.size)⟩
theorem fcon_part (a:Nat → Addr) (B base b:Nat) (v:Value) (L:List ByteArray) (old sz:Nat) (b0:List UInt8) (P:List (List UInt8)) (A:Option Addr) (m c:Nat) (w:World) (hE:Env B a w) (h:LogAt base b v L w) (hs:sz ≤ L.length) (ho:old < 18446744073709551616) (hb:b0.length = 32) (hp:HIn w A m c P) (hm9:m ≤ 1000000000) (hvv:okC old sz L b0 P) (hsm:b0 ≠ treeB L 0 old) (hbare:∀ i,¬ fBare (saidL (mapC old sz b0 P)) 64 0 sz i) :
 Calls Tryz.prog 13 #[.pointer (some ⟨b,0,none⟩),.int .u64 old,.int .u64 sz,hv b0,.slice A m c] w fun ev w' => PartPost (fWalk (saidL (mapC old sz b0 P)) (claimLeaf [] 0) L (logText L) (claimText [] 0) 64 0 sz) ev ∧ Below w.heap.size w w':=by
 have hL:=h.1.1
 obtain ⟨vr,evr,Hvr,Zvr,Ivr,Ovr⟩:=row_of (treeB L 0 sz) (treeB_len _ _ _)
 obtain ⟨vh,evh,Hvh,Zvh,Ivh,Ovh⟩:=row_of b0 hb
 have HRT:Hid (∀ w,Env B a w → LogAt base b v L w → Calls Tryz.prog 20 #[.pointer (some ⟨b,0,none⟩),.int .u64 sz] w fun ev w' => ev = .returned (.tuple #[.agg vr,.nilIface]) ∧ Below w.heap.size w w'):=hid (fun w e q => by
  have:=lroot_ok a B base b v L sz w e q (by omega) (by omega)
  rw [evr] at this;exact this)
 have HCO:Hid (∀ w,Env B a w → HIn w A m c P → Calls Tryz.prog 42 #[.int .u64 old,.int .u64 sz,.agg vh,.agg vr,.slice A m c] w fun ev w' => ev = .returned .nilIface ∧ Below w.heap.size w w'):=hid (fun w e q => by
  have:=vcons_good a B old sz L b0 P A m c w e (by omega) hb q hm9 hvv
  rw [evh,evr] at this;exact this)
 have h0:0 < old:=hvv.1
 have h1:old ≤ sz:=hvv.2.1
 have HN:=hid (show 0 < sz ∧ sz ≤ L.length by omega)
 obtain ⟨vo,evo,Hvo,Zvo,Ivo,Ovo⟩:=row_of (treeB L 0 old) (treeB_len _ _ _)
 have HRO:Hid (∀ w,Env B a w → LogAt base b v L w → Calls Tryz.prog 20 #[.pointer (some ⟨b,0,none⟩),.int .u64 old] w fun ev w' => ev = .returned (.tuple #[.agg vo,.nilIface]) ∧ Below w.heap.size w w'):=hid (fun w e q => by
  have:=lroot_ok a B base b v L old w e q (by omega) (by omega)
  rw [evo] at this;exact this)
 have hq:∀ w,(Op.equalIn 10000 39 (.agg vo) (.agg vh)).run Tryz.prog w = .ok false w:=fun w => by rw [eq_hash _ _ (treeB_len L 0 old) hb vo vh evo evh w];simp;exact fun e => hsm (Eq.symm e)
 have hlt:old < sz:=by
  rcases Nat.lt_or_ge old sz with q | q
  ·exact q
  ·have e:old = sz:=by omega
   exact absurd (by rw [(hvv.2.2.1 e).2,e]) hsm
 obtain ⟨l,hl⟩:∃ l,proofL 64 old 0 sz = l:=⟨_,rfl⟩
 have hln:l.length = m:=by rw [← hl,← (hvv.2.2.2 hlt).1];exact hp.2.1
 have hPB:∀ p ∈ l,PB p:=fun p hpm => by
  rw [← hl] at hpm
  obtain ⟨q1,q2,q3⟩:=proofL_in 64 old 0 sz p (by omega) (by omega) (by rw [pow2_64];omega) hpm
  exact ⟨by omega,by omega,by omega,by omega⟩
 have HSHB:Hid (∀ w,Calls Tryz.prog 43 #[.int .u64 old,.int .u64 sz] w (ListPost 84 2 w l.length (spanCells l))):=hid (fun w => by rw [← hl];exact proof_ok old sz w (by omega) (by omega) (by omega))
 obtain ⟨out,hout⟩:∃ z,(fWalk (saidL (mapC old sz b0 P)) (claimLeaf [] 0) L (logText L) (claimText [] 0) 64 0 sz) = z:=⟨_,rfl⟩
 have HMC:Hid (l.zip P ++ [((0,(old:Int)),b0)] = mapC old sz b0 P):=hid (by unfold mapC;rw [hl])
 have HLB:Hid (l.length = m ∧ (∀ p ∈ l,PB p) ∧ m ≤ 1000000000 ∧ (∀ i,¬ fBare (saidL (mapC old sz b0 P)) 64 0 sz i) ∧ (fWalk (saidL (mapC old sz b0 P)) (claimLeaf [] 0) L (logText L) (claimText [] 0) 64 0 sz) = out):=hid ⟨hln,hPB,hm9,hbare,hout⟩
 have HPB:Hid (PB (0,(old:Int))):=hid ⟨by omega,by omega,by omega,by omega⟩
 have HBL:=hid hb
 have HBV:=hid Hvh.out
 rw [hout]
 clear hl hln hPB hout hbare hlt
 have HE:=hid hE
 have HL:=hid h
 have HP:=hid hp
 rw [evh]
 have R8:Hid ((w.alloc (.cells vh 39)).heap[w.heap.size]? = some (.cells vh 39 (0,0))):=hid (heap_at _ _ _ rfl)
 have HB0:Hid (Below w.heap.size w (w.alloc (.cells vh 39))):=hid ((Below.refl _ _).alloc (Nat.le_refl _) _)
 have HS0:Hid (w.heap.size < (w.alloc (.cells vh 39)).heap.size):=hid (by simp)
 obtain ⟨wv,hwv⟩:∃ x,w.alloc (.cells vh 39) = x:=⟨_,rfl⟩
 rw [hwv] at R8 HB0 HS0
 have HWV:=hid hwv
 clear hwv
 clear hE h hp evr evh hs hvv hL hb hm9 ho hsm h0 h1 evo
 go_enter Tryz.func13,Tryz.ntmps13
 go_upto_region 1 with fail
 rw [HWV.out]
 go_wp2_with fail
 refine (HRT.out wv (HE.out.step HB0.out) (HL.out.below HB0.out)).mono ?_
 rintro ev w1 ⟨rfl,b1⟩
 go_upto_region 2 with (refine wpList_store_row_any rfl 39 _ _ rfl w1.heap.size vr rfl rfl 39 _ (heap_at _ _ _ rfl) Ivr.out (by rw [Zvr.out];rfl) Ovr.out ?_;intro w2 hbN hgN hsN;have b2:Below w1.heap.size w1 w2:=((Below.refl _ w1).alloc (Nat.le_refl _) _).trans (hbN.to_below (by simp) (fun k hk q => by omega));have Rw2:=hid hgN;clear hbN hgN hsN)
 have BV2:Hid (Below wv.heap.size wv w2):=hid (b1.trans (b2.mono b1.size))
 have HB2:Hid (Below w.heap.size w w2):=hid (HB0.out.trans (BV2.out.mono HB0.out.size))
 have R82:Hid (w2.heap[w.heap.size]? = some (.cells vh 39 (0,0))):=hid ((BV2.out.block _ HS0.out).trans R8.out)
 clear b1 b2
 go_wp2_with (first
  | (refine wpList_load_row_g rfl 39 _ rfl w.heap.size rfl 39 vh (0,0) _ R82.out Tryz.underlying39 rfl Ivh.out ?_)
  | (refine wpList_load_row_g rfl 39 _ rfl w1.heap.size rfl 39 vr (0,0) _ Rw2.out Tryz.underlying39 rfl Ivr.out ?_))
 refine (HCO.out w2 (HE.out.step HB2.out) (HP.out.below HB2.out)).mono ?_
 rintro ev w3 ⟨rfl,b3⟩
 have HB3:Hid (Below w.heap.size w w3):=hid (HB2.out.trans (b3.mono HB2.out.size))
 have B23:=hid b3
 clear b3
 go_wp2_with fail
 refine (HRO.out w3 (HE.out.step HB3.out) (HL.out.below HB3.out)).mono ?_
 rintro ev w4 ⟨rfl,b4⟩
 go_upto_region 5 with (refine wpList_store_row_any rfl 39 _ _ rfl w4.heap.size vo rfl rfl 39 _ (heap_at _ _ _ rfl) Ivo.out (by rw [Zvo.out];rfl) Ovo.out ?_;intro w5 hbN hgN hsN;have b5:Below w4.heap.size w4 w5:=((Below.refl _ w4).alloc (Nat.le_refl _) _).trans (hbN.to_below (by simp) (fun k hk q => by omega));have Rw5:=hid hgN;clear hbN hgN hsN)
 have B35:Hid (Below w3.heap.size w3 w5):=hid (b4.trans (b5.mono b4.size))
 have HB5:Hid (Below w.heap.size w w5):=hid (HB3.out.trans (B35.out.mono HB3.out.size))
 have R85:Hid (w5.heap[w.heap.size]? = some (.cells vh 39 (0,0))):=hid ((B35.out.block _ (Nat.lt_of_lt_of_le (Array.getElem?_eq_some_iff.1 R82.out).1 B23.out.size)).trans ((B23.out.block _ (Array.getElem?_eq_some_iff.1 R82.out).1).trans R82.out))
 clear b4 b5
 go_wp2_with (first
  | (refine wpList_load_row_g rfl 39 _ rfl w4.heap.size rfl 39 vo (0,0) _ Rw5.out Tryz.underlying39 rfl Ivo.out ?_)
  | (refine wpList_load_row_g rfl 39 _ rfl w.heap.size rfl 39 vh (0,0) _ R85.out Tryz.underlying39 rfl Ivh.out ?_))
 refine (HSHB.out w5).mono ?_
 clear hq
 rintro ev w6 ⟨sv,rfl,hown,b6⟩
 have HRD:=hid (rd_own hown)
 obtain ⟨Asv,csv,rfl,_⟩:=own_shape hown
 have HB6:Hid (Below w.heap.size w w6):=hid (HB5.out.trans (b6.mono HB5.out.size))
 have HB56:=hid b6
 clear hown b6
 go_wp2_with fail
 refine (laid_any' l P (.slice Asv l.length csv) A m c w6 (by rw [HLB.out.1] at HRD;have:=HRD.out;rw [HLB.out.1];exact this) HLB.out.1 (HP.out.below HB6.out) HLB.out.2.1 (by have:=HLB.out.2.2.1;omega)).mono ?_
 rintro ev w8 ⟨rfl,hsd,b8⟩
 have HSD0:=hid hsd
 obtain ⟨mb,hmb⟩:∃ z,w6.heap.size = z:=⟨_,rfl⟩
 have HMB6:=hid hmb
 rw [hmb] at HSD0 ⊢
 have HB8:Hid (Below w.heap.size w w8):=hid (HB6.out.trans (b8.mono HB6.out.size))
 have B68:Hid (Below w6.heap.size w6 w8):=hid b8
 have HMW:Hid (w.heap.size ≤ mb):=hid (by rw [← hmb];exact HB6.out.size)
 clear hsd b8 hmb
 obtain ⟨w9,hw9⟩:∃ z,w8.alloc (.cells #[.pointer (some ⟨b,0,none⟩),.map (some mb),.int .u64 0,.slice none 0 0] 71) = z:=⟨_,rfl⟩
 have R9:Hid (w9.heap[w8.heap.size]? = some (.cells #[.pointer (some ⟨b,0,none⟩),.map (some mb),.int .u64 0,.slice none 0 0] 71 (0,0))):=hid (by rw [← hw9];exact heap_at _ _ _ rfl)
 have B89:Hid (Below w8.heap.size w8 w9):=hid (by rw [← hw9];exact (Below.refl _ _).alloc (Nat.le_refl _) _)
 have B59:Hid (Below w5.heap.size w5 w9):=hid (HB56.out.trans ((B68.out.trans (B89.out.mono B68.out.size)).mono HB56.out.size))
 have HB9:Hid (Below w.heap.size w w9):=hid (HB8.out.trans (B89.out.mono HB8.out.size))
 have HSD:=hid (HSD0.out.below B89.out HSD0.out.lt)
 obtain ⟨Cb,hCb⟩:∃ z,w8.heap.size = z:=⟨_,rfl⟩
 have HMS:Hid (mb ≤ w9.heap.size):=hid (Nat.le_of_lt HSD.out.lt)
 have HMC8:Hid (mb < Cb):=hid (by rw [← hCb];exact HSD0.out.lt)
 rw [hCb] at R9
 have HCS:Hid (Cb < w9.heap.size):=hid (Array.getElem?_eq_some_iff.1 R9.out).1
 have HW9:=hid hw9
 have HCB:=hid hCb
 clear hw9 hCb
 go_upto_region 9 with fail
 rw [HW9.out,HCB.out]
 have KC:Hid (∀ w',But (fun q => q = mb) w9 w' → w'.cell? ⟨Cb,1,none⟩ = some (.map (some mb))):=hid (fun w' g => by
  rw [cell_of_row w' Cb 1 _ 71 (0,0) ((g.same Cb HCS.out (by have:=HMC8.out;omega)).trans R9.out)];rfl)
 have KB:Hid (∀ w',But (fun q => q = mb) w9 w' → w'.heap[w.heap.size]? = some (.cells vh 39 (0,0))):=hid (fun w' g => by
  have hm6:w5.heap.size ≤ mb:=by rw [← HMB6.out];exact HB56.out.size
  have h5:=(Array.getElem?_eq_some_iff.1 R85.out).1
  exact (g.same _ (by have:=HMS.out;omega) (by omega)).trans ((B59.out.block _ h5).trans R85.out))
 clear HMB6
 refine wp_region_held_drew (S:=But (fun q => q = mb) w9) (by kernel_rfl) (But.refl _ w9).drew (fun hHeld => ?_)
 refine tk (i:=0) (v:=?v23) rfl ?y23 ?r23
 case y23 => (intro w hSw;(try dsimp only at hSw);go_simp;(try with_reducible rfl))
 try simp only [pu]
 refine tk (i:=1) (v:=?v24) rfl ?y24 ?r24
 case y24 => (intro w hSw;(try dsimp only at hSw);go_simp;(try with_reducible rfl))
 try simp only [pu]
 refine tk (i:=2) (v:=?v25) rfl ?y25 ?r25
 case y25 => (intro w hSw;(try dsimp only at hSw);go_simp;(try with_reducible rfl))
 try simp only [pu]
 refine tk (i:=3) (v:=?v26) rfl ?y26 ?r26
 case y26 => (intro w hSw;(try dsimp only at hSw);have q0:=KC.out w hSw;go_simp;(try with_reducible rfl))
 try simp only [pu]
 refine tk (i:=4) (v:=?v27) rfl ?y27 ?r27
 case y27 => (intro w hSw;(try dsimp only at hSw);go_simp;(try with_reducible rfl))
 try simp only [pu]
 refine tk (i:=5) (v:=?v28) rfl ?y28 ?r28
 case y28 => (intro w hSw;(try dsimp only at hSw);go_simp;(try with_reducible rfl))
 try simp only [pu]
 refine tw (i:=6) rfl (yieldsIf_load_row (by rfl) 39 _ (by rfl) w.heap.size (by rfl) 39 vh (0,0) _ (fun w h => KB.out w h) Tryz.underlying39 rfl Ivh.out) ?_
 try simp only [pu]
 refine wpAnyH_ready (rs:=[7]) (by kernel_rfl) (by simp) ?_
 refine AllReadyH.cons (i:=7) rfl (fun K2 hK2 => ?_) AllReadyH.nil
 rw [if_pos (by rfl)]
 refine wp_mapUpdate_said _ _ _ rfl mb _ _ rfl HSD.out.2.drew (by unfold maxLen;have:=HLB.out;simp only [List.length_zip];omega) (0,old) HPB.out b0 HBL.out rfl (by rw [hv,HBV.out];rfl) ?_
 intro w10 hown10 hgrow10
 have HN10:=hid (And.intro hown10 hgrow10)
 clear hown10 hgrow10
 refine hK2.out _ _ (show But (fun q => q = mb) w9 w10 from ((But.refl (fun q => q = mb) w9).drew).grown HN10.out.2 (fun q hq _ => by cases hq;rfl)) (fun hHeld2 => ?_)
 clear hK2 K2
 try simp only [Act.put,List.getElem_toArray,List.getElem_cons_zero,List.getElem_cons_succ]
 refine wpAnyH_done (by kernel_rfl) ?_ _
 have HB10:Hid (Below w.heap.size w w10):=hid (HB9.out.trans (((But.refl (fun q => q = mb) w9).drew.grown HN10.out.2 (fun q hq _ => by cases hq;rfl)).to_below HB9.out.size (fun k hk => by have:=HMW.out;omega)))
 have BM10:Hid (But (fun q => q = mb) w9 w10):=hid ((But.refl (fun q => q = mb) w9).drew.grown HN10.out.2 (fun q hq _ => by cases hq;rfl))
 have R10:Hid (w10.heap[Cb]? = some (.cells #[.pointer (some ⟨b,0,none⟩),.map (some mb),.int .u64 0,.slice none 0 0] 71 (0,0))):=hid ((BM10.out.same Cb HCS.out (by have:=HMC8.out;omega)).trans R9.out)
 have HSI:Hid (SIn w10 none 0 0 []):=hid ⟨rfl,Nat.le_refl _,by omega,fun s hs => by simp at hs,by omega,.inl rfl⟩
 have HSD10:Hid (SaidAt w10 mb (mapC old sz b0 P)):=hid (by
  rw [← HMC.out]
  refine ⟨fun x hx => ?_,?_⟩
  ·rcases List.mem_append.1 hx with hx | hx
   ·exact HSD.out.1 x hx
   ·simp at hx;subst hx;exact ⟨HPB.out,HBL.out⟩
  ·rw [List.length_append,saidD_snoc]
   exact HN10.out.1)
 have HPP:Hid (PartPre a B base b v L Cb mb 0 none 0 0 [] (mapC old sz b0 P) w10):=hid ⟨HE.out.step HB10.out,HL.out.below HB10.out,R10.out,HSD10.out,HSI.out,fun s hs => by simp at hs,fun g o q => by cases q⟩
 have HPT:Hid (Calls Tryz.prog 27 #[.pointer (some ⟨Cb,0,none⟩),.int .u64 sz] w10 fun ev w' => PartPost out ev ∧ Below w10.heap.size w10 w'):=hid (by
  have:=part_any a B base b v L Cb mb 0 none 0 0 [] (mapC old sz b0 P) sz w10 HPP.out (by omega) HN.out.1 HN.out.2 (fun i hi => absurd hi (HLB.out.2.2.2.1 i))
  rw [HLB.out.2.2.2.2] at this;exact this)
 clear hHeld2
 go_wp2_with fail
 refine HPT.out.mono ?_
 rintro ev w11 ⟨hpo,b11⟩
 have HB11:Hid (Below w.heap.size w w11):=hid (HB10.out.trans (b11.mono HB10.out.size))
 clear b11
 cases out with
 | none =>
  obtain rfl:=hpo
  go_wp2
  go_ret3
  exact ⟨rfl,HB11.out⟩
 | some r =>
  obtain ⟨s,t,rfl,hr⟩:=hpo
  have HR:=hid hr
  clear hr
  go_wp2
  go_ret3
  exact ⟨⟨s,t,rfl,HR.out⟩,HB11.out⟩
end Go.Proofs.YtpdkpdpkggepcaaGreatDoor

/- What the references of layers 18 and 20 reckon, against what the claim says. Plain. -/
namespace Go.Proofs.YtpdkpdpkggepcaaGreatDoor
open Go.ChangeShapes Go.WideShapes Go.ChangeAt Go.RowKit
set_option maxRecDepth 100000
set_option maxHeartbeats 16000000
open Lib (hid)
set_option linter.unusedVariables false
theorem first_said:∀ {m:List ((Int × Int) × List UInt8)},(m.map (·.1)).Nodup → ∀ p,firstL m p = saidL m p
 | [],_,p => rfl
 | x :: r,h,p => by
  rw [List.map_cons,List.nodup_cons] at h
  rw [firstL,saidL,first_said h.2 p]
  by_cases q:x.1 = p
  ·rw [if_pos q,if_pos q,saidL_none r p (fun y hy e => h.1 (List.mem_map.2 ⟨y,hy,by rw [e,q]⟩))]
  ·rw [if_neg q,if_neg q];cases saidL r p <;> rfl
theorem nodup_snoc {α:Type} {l:List α} {x:α} (h:l.Nodup) (hx:x ∉ l):(l ++ [x]).Nodup:=by
 rw [List.nodup_append];exact ⟨h,by simp,fun a ha b hb => by simp at hb;subst hb;exact fun e => hx (e ▸ ha)⟩
theorem proof_nodup:∀ (f:Nat) (old b e:Int),b < old → old ≤ e → e - b ≤ pow2 f → (proofL f old b e).Nodup
 | 0,old,b,e,_,_,_ => by rw [proofL];split <;> (try split) <;> simp
 | f+1,old,b,e,h1,h2,hp => by
  rw [proofL]
  by_cases h3:e = old
  ·rw [if_pos h3];split <;> simp
  ·have hb:=blwI_bd (n:=e - b) (by omega)
   have hk:=blwI_le_pow (n:=e - b) (f:=f) (by omega) hp
   have hps:=pow2_succ f
   rw [if_neg h3]
   split
   ·rename_i hx
    exact nodup_snoc (proof_nodup f old b _ h1 hx (by omega)) (fun hm => by have:=proofL_in f old b _ _ h1 hx (by omega) hm;simp at this;omega)
   ·rename_i hx
    exact nodup_snoc (proof_nodup f old _ e (by omega) h2 (by omega)) (fun hm => by have:=proofL_in f old _ e _ (by omega) h2 (by omega) hm;simp at this;omega)
theorem zip_keys:∀ {α β:Type} {l:List α} {P:List β},P.length = l.length → (l.zip P).map (·.1) = l
 | _,_,[],[],_ => rfl
 | _,_,[],y :: r,h => by simp at h
 | _,_,x :: l,[],h => by simp at h
 | _,_,x :: l,y :: r,h => by rw [List.zip_cons_cons,List.map_cons,zip_keys (by simpa using h)]
theorem zip_first {l:List (Int × Int)} {P:List (List UInt8)} (hl:P.length = l.length) (hn:l.Nodup) (p:Int × Int):firstL (l.zip P) p = saidL (l.zip P) p :=
 first_said (by rw [zip_keys hl];exact hn) p
/- cartularyref20.so, Inclusion: the two texts, or none. No condition. -/
theorem field_code (x z:Value) (w:World):(Instr.field 52 (.agg #[x,z]) 0).run Tryz.prog w = .ok x w:=by kernel_rfl
theorem so20_any (base b2:Nat) (v:Value) (L:List ByteArray) (sz:Nat) (w:World) (h:RLogAt base b2 v L w) (h0:0 < sz) (h1:sz ≤ L.length) :
 Calls Tryz.prog 31 #[.pointer (some ⟨b2,0,none⟩),.int .u64 sz] w fun ev w' => ev = .returned (.tuple #[.string (strOf (soB L sz)),.string (strOf (soB L sz)),.bool false]) ∧ Below w.heap.size w w':=by
 have hL:=h.1.1
 obtain ⟨wv,hwv⟩:∃ y,w.alloc (.cells #[.pointer (some ⟨b2,0,none⟩),.slice none 0 0,.slice none 0 0,.int .u64 0,.slice none 0 0,.int .u64 0,.int .u8 0,.int .u8 0,.int .u8 0,.int .u8 0,.int .u8 0,.int .u8 0,.int .u8 0,.int .u8 0,.int .u8 0,.int .u8 0,.int .u8 0,.int .u8 0,.int .u8 0,.int .u8 0,.int .u8 0,.int .u8 0,.int .u8 0,.int .u8 0,.int .u8 0,.int .u8 0,.int .u8 0,.int .u8 0,.int .u8 0,.int .u8 0,.int .u8 0,.int .u8 0,.int .u8 0,.int .u8 0,.int .u8 0,.int .u8 0,.int .u8 0,.int .u8 0] 81) = y:=⟨_,rfl⟩
 have HB:Hid (Below w.heap.size w wv):=hid (by rw [← hwv];exact (Below.refl _ _).alloc (Nat.le_refl _) _)
 have RG:Hid (wv.heap[w.heap.size]? = some (.cells #[.pointer (some ⟨b2,0,none⟩),.slice none 0 0,.slice none 0 0,.int .u64 0,.slice none 0 0,.int .u64 0,.int .u8 0,.int .u8 0,.int .u8 0,.int .u8 0,.int .u8 0,.int .u8 0,.int .u8 0,.int .u8 0,.int .u8 0,.int .u8 0,.int .u8 0,.int .u8 0,.int .u8 0,.int .u8 0,.int .u8 0,.int .u8 0,.int .u8 0,.int .u8 0,.int .u8 0,.int .u8 0,.int .u8 0,.int .u8 0,.int .u8 0,.int .u8 0,.int .u8 0,.int .u8 0,.int .u8 0,.int .u8 0,.int .u8 0,.int .u8 0,.int .u8 0,.int .u8 0] 81 (0,0))):=hid (by rw [← hwv];exact heap_at _ _ _ rfl)
 have HWV:=hid hwv
 have HR:=hid h
 obtain ⟨y,hy⟩:∃ y,L[0]? = some y:=⟨_,List.getElem?_eq_getElem (by omega)⟩
 have hys:=h.1.2 y (List.mem_of_getElem? hy)
 have HTX:=hid (fun w' => lt_text y w' (by omega))
 have hv':=h.below HB.out
 obtain ⟨AL,capL,rfl,_⟩:=own_shape h.2.2.2.1
 obtain ⟨_,hsin,_⟩:=rlog_sin hv'
 obtain ⟨gL,oL,qL,hcL,hgL,_⟩:=hsin.at hy
 subst qL
 rw [Nat.add_zero] at hcL
 have c0:=hv'.c0
 obtain ⟨N,hN⟩:∃ N:Nat,L.length = N:=⟨_,rfl⟩
 rw [hN] at c0 h1 hL
 have hz0:((sz:Int) == 0) = false:=by simp;omega
 have n0:(0:Int) < N:=by omega
 have n1:0 < N:=by omega
 obtain ⟨res,hres⟩:∃ r,strOf (soB L sz) = r:=⟨_,rfl⟩
 rw [hres]
 have HRES:=hid hres
 have HY:=hid hy
 have HN:=hid (And.intro hN h1)
 clear hres hy hv' hsin h hwv
 by_cases h2:2 ≤ sz
 ·have hb:=blwI_bd (n:=(sz:Int)) (by omega)
  obtain ⟨k,hk⟩:∃ k:Nat,blwI (sz:Int) = k:=⟨(blwI (sz:Int)).toNat,by omega⟩
  have HSO:Hid (soB L sz = 1 :: (treeB L 0 k ++ treeB L k sz)):=hid (by unfold soB;rw [if_neg (by omega),hk])
  obtain ⟨va,eva,HVA,Zva,Iva,Ova⟩:=span_row 0 k
  obtain ⟨vb,evb,HVB,Zvb,Ivb,Ovb⟩:=span_row k sz
  have HHALF:Hid (∀ w',Calls Tryz.prog 64 #[.agg #[.int .u64 0,.int .u64 sz]] w' fun ev w2 => ev = .returned (.tuple #[.agg va,.agg vb]) ∧ Below w'.heap.size w' w2):=hid (fun w' => by
   have:=halves20_any 0 sz w' (by omega) (by omega) (by omega)
   rw [Int.sub_zero,Int.zero_add,hk,eva,evb] at this;exact this)
  obtain ⟨vp,evp,Hvp,Zvp,Ivp,Ovp⟩:=row_of (treeB L 0 k) (treeB_len _ _ _)
  obtain ⟨vr,evr,Hvr,Zvr,Ivr,Ovr⟩:=row_of (treeB L k sz) (treeB_len _ _ _)
  have cg:∀ w',Below wv.heap.size wv w' → w'.cell? ⟨w.heap.size,0,none⟩ = some (.pointer (some ⟨b2,0,none⟩)):=fun w' hb => by
   rw [cell_of_row w' w.heap.size 0 _ 81 (0,0) ((hb.block _ (Array.getElem?_eq_some_iff.1 RG.out).1).trans RG.out)];rfl
  have HT1:Hid (∀ w',Below wv.heap.size wv w' → Calls Tryz.prog 66 #[.pointer (some ⟨w.heap.size,0,none⟩),.agg va] w' fun ev w2 => ev = .returned (.agg vp) ∧ Below w'.heap.size w' w2):=hid (fun w' hw => by
   have:=tree20_any base b2 w.heap.size _ L 0 k w' (HR.out.below (HB.out.trans (hw.mono HB.out.size))) (cg w' hw) (by omega) (by rw [HN.out.1];omega)
   rw [show ((0:Nat):Int) = 0 from rfl,eva,evp] at this;exact this)
  have HT2:Hid (∀ w',Below wv.heap.size wv w' → Calls Tryz.prog 66 #[.pointer (some ⟨w.heap.size,0,none⟩),.agg vb] w' fun ev w2 => ev = .returned (.agg vr) ∧ Below w'.heap.size w' w2):=hid (fun w' hw => by
   have:=tree20_any base b2 w.heap.size _ L k sz w' (HR.out.below (HB.out.trans (hw.mono HB.out.size))) (cg w' hw) (by omega) (by rw [HN.out.1];omega)
   rw [evb,evr] at this;exact this)
  have HN1:Hid (∀ w',Calls Tryz.prog 65 #[.agg vp,.agg vr] w' fun ev w2 => ev = .returned (.string res) ∧ Below w'.heap.size w' w2):=hid (fun w' => by
   have:=nt_text (treeB L 0 k) (treeB L k sz) w' (treeB_len _ _ _) (treeB_len _ _ _)
   rw [evp,evr,← HSO.out,HRES.out] at this;exact this)
  have hgt:decide ((1:Int) < (sz:Int)) = true:=by simp;omega
  have hgt2:(1:Int) < (sz:Int):=by omega
  have hgt3:1 < sz:=by omega
  clear hb hk eva evb evp evr cg hN h1
  go_enter Tryz.func31,Tryz.ntmps31
  go_upto_region 4 with fail
  rw [HWV.out]
  go_wp2_with fail
  refine (HTX.out wv).mono ?_
  rintro ev w1 ⟨rfl,b1⟩
  have B1:=hid b1
  clear b1
  go_wp2_with fail
  refine (HHALF.out w1).mono ?_
  rintro ev w5 ⟨rfl,b5⟩
  have B5:=hid b5
  clear b5
  go_upto_region 7 with (first
   | (refine wpList_store_row_any rfl 84 _ _ rfl w5.heap.size va rfl rfl 84 _ ((((Below.refl _ (w5.alloc _)).alloc (Nat.le_refl _) _).block _ (by simp)).trans (heap_at _ _ _ rfl)) Iva.out (by rw [Zva.out];rfl) Ova.out ?_;intro w6 hbA hgA hsA;have BA:=hid hbA;have GA:=hid hgA;have SA:Hid (w6.heap.size = w5.heap.size+1+1):=hid (hsA.trans (by simp));clear hbA hgA hsA)
   | (refine wpList_store_row_any rfl 84 _ _ rfl (w5.heap.size+1) vb rfl rfl 84 _ ((BA.out.same _ (by simp) (by omega)).trans (heap_at _ _ _ (by simp))) Ivb.out (by rw [Zvb.out];rfl) Ovb.out ?_;intro wy hbB hgB hsB;have BC:=hid hbB;have RBy:=hid hgB;have SB:Hid (wy.heap.size = w5.heap.size+1+1):=hid (hsB.trans SA.out);clear hbB hgB hsB))
  have B5Y:Hid (Below w5.heap.size w5 wy):=hid ((((Below.refl _ _).alloc (Nat.le_refl _) _).alloc (by simp) _).trans (((BA.out.mono (T:=fun k => k = w5.heap.size ∨ k = w5.heap.size+1) (fun _ _ q => .inl q)).step BC.out (fun _ _ q => .inr q)).to_below (by simp;omega) (fun k hk q => by omega)))
  have RAy:Hid (wy.heap[w5.heap.size]? = some (.cells va 84 (0,0))):=hid ((BC.out.same _ (by have:=SA.out;omega) (by omega)).trans GA.out)
  have BVY:Hid (Below wv.heap.size wv wy):=hid (B1.out.trans ((B5.out.trans (B5Y.out.mono B5.out.size)).mono B1.out.size))
  refine wp_region_held_drew (S:=But (fun _ => False) wy) (by kernel_rfl) (But.refl _ _).drew (fun hHeld => ?_)
  refine tk (i:=0) (v:=?v1) rfl ?y1 ?r1
  case y1 => (intro w hSw;(try dsimp only at hSw);go_simp;(try with_reducible rfl))
  try simp only [pu]
  refine tw (i:=1) rfl (yieldsIf_load_row (by rfl) 84 _ (by rfl) w5.heap.size (by rfl) 84 va (0,0) _ (fun w h => (But.same h _ (by have:=(Array.getElem?_eq_some_iff.1 RAy.out).1;exact this) (fun q => q)).trans RAy.out) Tryz.underlying84 rfl Iva.out) ?_
  try simp only [pu]
  refine tk (i:=3) (v:=?v3) rfl ?y3 ?r3
  case y3 => (intro w hSw;(try dsimp only at hSw);go_simp;(try with_reducible rfl))
  try simp only [pu]
  refine tw (i:=4) rfl (yieldsIf_load_row (by rfl) 84 _ (by rfl) (w5.heap.size+1) (by rfl) 84 vb (0,0) _ (fun w h => (But.same h _ (by have:=(Array.getElem?_eq_some_iff.1 RBy.out).1;exact this) (fun q => q)).trans RBy.out) Tryz.underlying84 rfl Ivb.out) ?_
  try simp only [pu]
  refine wpAnyH_ready (rs:=[2]) (by kernel_rfl) (by simp) ?_
  refine AllReadyH.cons (i:=2) rfl (fun K2 hK2 => ?_) AllReadyH.nil
  go_simp
  go_at_call 66
  refine (HT1.out wy.drew (BVY.out.trans (But.to_below ((But.refl (fun _ => False) wy).drew) BVY.out.size (fun _ _ q => q)))).mono ?_
  rintro ev w701 ⟨rfl,bw701⟩
  try go_wp2_with fail
  obtain ⟨Kw701,fw701⟩:=st_call ((But.refl (fun _ => False) wy).drew) bw701
  have Kw701:=hid Kw701
  clear bw701 fw701
  refine hK2.out _ _ Kw701.out (fun hHeld2 => ?_)
  clear hK2 K2
  try simp only [pu]
  refine wpAnyH_ready (rs:=[5]) (by kernel_rfl) (by simp) ?_
  refine AllReadyH.cons (i:=5) rfl (fun K2 hK2 => ?_) AllReadyH.nil
  go_simp
  go_at_call 66
  refine (HT2.out w701 (BVY.out.trans (But.to_below Kw701.out BVY.out.size (fun _ _ q => q)))).mono ?_
  rintro ev w702 ⟨rfl,bw702⟩
  try go_wp2_with fail
  obtain ⟨Kw702,fw702⟩:=st_call Kw701.out bw702
  have Kw702:=hid Kw702
  clear bw702 fw702
  refine hK2.out _ _ Kw702.out (fun hHeld2 => ?_)
  clear hK2 K2
  try simp only [pu]
  refine wpAnyH_ready (rs:=[6]) (by kernel_rfl) (by simp) ?_
  refine AllReadyH.cons (i:=6) rfl (fun K2 hK2 => ?_) AllReadyH.nil
  go_simp
  go_at_call 65
  refine (HN1.out w702).mono ?_
  rintro ev w703 ⟨rfl,bw703⟩
  try go_wp2_with fail
  obtain ⟨Kw703,fw703⟩:=st_call Kw702.out bw703
  have Kw703:=hid Kw703
  clear bw703 fw703
  refine hK2.out _ _ Kw703.out (fun hHeld2 => ?_)
  clear hK2 K2
  try simp only [pu]
  refine tk (i:=7) (v:=?v5) rfl ?y5 ?r5
  case y5 => (intro w hSw;(try dsimp only at hSw);go_simp;(try with_reducible rfl))
  try simp only [pu]
  refine wpAnyH_done (by kernel_rfl) ?_ _
  obtain ⟨wz,hnwz⟩:∃ x,w703 = x:=⟨_,rfl⟩
  have Bwz:Hid (Below wy.heap.size wy wz):=hid (by rw [← hnwz];exact But.to_below Kw703.out (Nat.le_refl _) (fun _ _ q => q))
  rw [hnwz]
  clear hnwz hHeld hHeld2
  go_wp2_with fail
  go_ret3
  exact ⟨rfl,HB.out.trans ((BVY.out.trans (Bwz.out.mono BVY.out.size)).mono HB.out.size)⟩
 ·obtain rfl:sz = 1:=by omega
  have HSO:Hid (strOf (0 :: bOf y) = res):=hid (by
   rw [← HRES.out]
   unfold soB
   rw [if_pos (by omega),List.getD_eq_getElem?_getD,HY.out];rfl)
  clear hN h1
  go_enter Tryz.func31,Tryz.ntmps31
  go_upto_region 4 with fail
  rw [HWV.out]
  go_wp2_with fail
  refine (HTX.out wv).mono ?_
  rw [HSO.out]
  rintro ev w1 ⟨rfl,b1⟩
  go_wp2_with fail
  go_ret3
  exact ⟨rfl,HB.out.trans (b1.mono HB.out.size)⟩
/- cartularyref20.Consistency: the two texts, or none. No condition. -/
def givR (a b c d:Value) (l:List Value):Array Value:=([a,b,c,.int .u64 0,.slice none 0 0,d] ++ l).toArray
theorem givR_tail (a b c d:Value) (l:List Value) (j:Nat) (u:Value) (hu:l[j]? = some u):(givR a b c d l)[6+j]? = some u:=by
 unfold givR
 simp only [List.getElem?_toArray]
 rw [List.getElem?_append_right (by simp),show 6+j - [a,b,c,Value.int .u64 0,Value.slice none 0 0,d].length = j by simp]
 exact hu
theorem built_given32 (p:Option Addr) (A A':Option Addr) (n n' c c':Nat) (k:Int) (x0 x1 x2 x3 x4 x5 x6 x7 x8 x9 x10 x11 x12 x13 x14 x15 x16 x17 x18 x19 x20 x21 x22 x23 x24 x25 x26 x27 x28 x29 x30 x31:Value) (w:World):(Instr.build 81 #[(0,.pointer p),(1,.slice A n c),(2,.slice A' n' c'),(5,.int .u64 k),(6,.agg #[x0,x1,x2,x3,x4,x5,x6,x7,x8,x9,x10,x11,x12,x13,x14,x15,x16,x17,x18,x19,x20,x21,x22,x23,x24,x25,x26,x27,x28,x29,x30,x31])]).run Tryz.prog w = .ok (.agg (givR (.pointer p) (.slice A n c) (.slice A' n' c') (.int .u64 k) [x0,x1,x2,x3,x4,x5,x6,x7,x8,x9,x10,x11,x12,x13,x14,x15,x16,x17,x18,x19,x20,x21,x22,x23,x24,x25,x26,x27,x28,x29,x30,x31])) w:=by kernel_rfl
theorem built_given (p:Option Addr) (A A':Option Addr) (n n' c c':Nat) (k:Int) (l:List Value) (hl:l.length = 32) (w:World):(Instr.build 81 #[(0,.pointer p),(1,.slice A n c),(2,.slice A' n' c'),(5,.int .u64 k),(6,.agg l.toArray)]).run Tryz.prog w = .ok (.agg (givR (.pointer p) (.slice A n c) (.slice A' n' c') (.int .u64 k) l)) w:=by
 match l,hl with
 | [x0,x1,x2,x3,x4,x5,x6,x7,x8,x9,x10,x11,x12,x13,x14,x15,x16,x17,x18,x19,x20,x21,x22,x23,x24,x25,x26,x27,x28,x29,x30,x31],_ => exact built_given32 p A A' n n' c c' k x0 x1 x2 x3 x4 x5 x6 x7 x8 x9 x10 x11 x12 x13 x14 x15 x16 x17 x18 x19 x20 x21 x22 x23 x24 x25 x26 x27 x28 x29 x30 x31 w
theorem wpList_build_giv {ops:Array Oper} {rest:List Oper} {o:Oper} {a:Act} {w:World} {Q:Exit → Act → World → Prop} (hw:Region.wanted o (yielded ops a.tmps) = true) (x0 x1 x2 x5 x6:Operand) (ho:o.op = .build 81 #[(0,x0),(1,x1),(2,x2),(5,x5),(6,x6)]) (u0 u1 u2 u5 u6:Value) (h0:a.eval x0 = u0) (h1:a.eval x1 = u1) (h2:a.eval x2 = u2) (h5:a.eval x5 = u5) (h6:a.eval x6 = u6) (r:Array Value) (hb:∀ w,(Instr.build 81 #[(0,u0),(1,u1),(2,u2),(5,u5),(6,u6)]).run Tryz.prog w = .ok (.agg r) w)
 (h:wpList Tryz.prog ops Q rest (a.put o.dst (.agg r)) w):wpList Tryz.prog ops Q (o :: rest) a w :=
 wpList_step fun K hK => by
  rw [if_pos hw]
  unfold Oper.wp execOp
  simp only [ho,List.map_toArray,List.map_cons,List.map_nil,h0,h1,h2,h5,h6,Sem.run_bind,Sem.run_pure,Result.andThen_ok,hb]
  exact hK _ _ h
theorem proofL_no:∀ (f:Nat) (old b e:Int),0 ≤ b → b < old → old ≤ e → ∀ p ∈ proofL f old b e,p ≠ (0,old)
 | 0,old,b,e => fun h0 h1 h2 p hp => by
  rw [proofL] at hp
  split at hp
  ·split at hp
   ·simp at hp;subst hp;simp;omega
   ·simp at hp
  ·simp at hp
 | f+1,old,b,e => fun h0 h1 h2 p hp => by
  rw [proofL] at hp
  split at hp
  ·split at hp
   ·simp at hp;subst hp;simp;omega
   ·simp at hp
  ·next hne =>
   have hb:=blwI_bd (n:=e - b) (by omega)
   split at hp
   ·next hx =>
    rcases List.mem_append.1 hp with q | q
    ·exact proofL_no f old b _ h0 h1 hx p q
    ·simp at q;subst q;simp;omega
   ·next hx =>
    rcases List.mem_append.1 hp with q | q
    ·exact proofL_no f old _ e (by omega) (by omega) h2 p q
    ·simp at q;subst q;simp;omega
theorem con_zero {old sz:Nat} {b0 b1:List UInt8} {P:List (List UInt8)} (h:conK old sz b0 b1 P = 0):0 < old ∧ old ≤ sz ∧ P.length = (proofL 64 old 0 sz).length:=by
 unfold conK at h
 split at h
 ·cases h
 ·split at h
  ·cases h
  ·next h1 h2 => exact ⟨by omega,by omega,by simpa using h2⟩
theorem con20_over (base b2:Nat) (v:Value) (L:List ByteArray) (old sz:Nat) (b0:List UInt8) (P:List (List UInt8)) (A:Option Addr) (m c:Nat) (w:World) (h:RLogAt base b2 v L w) (hb:b0.length = 32) (hs:L.length < sz) (hs2:sz < 18446744073709551616) :
 Calls Tryz.prog 14 #[.pointer (some ⟨b2,0,none⟩),.int .u64 old,.int .u64 sz,hv b0,.slice A m c] w fun ev w' => ev = .returned (PV none) ∧ Below w.heap.size w w':=by
 obtain ⟨vr,evr,Hvr,Zvr,Ivr,Ovr⟩:=row_of zeroH zeroH_length
 obtain ⟨vh,evh,Hvh,Zvh,Ivh,Ovh⟩:=row_of b0 hb
 obtain ⟨vf,evf,HVF,Zvf,Ivf,Ovf⟩:=fault_of 5
 have HRT:Hid (∀ w',Below w.heap.size w w' → Calls Tryz.prog 28 #[.pointer (some ⟨b2,0,none⟩),.int .u64 sz] w' fun ev w2 => ev = .returned (.tuple #[.agg vr,.agg vf]) ∧ Below w'.heap.size w' w2):=hid (fun w' hb => by
  rw [← evr,← evf];exact root08_bad base b2 v L sz w' (h.below hb) hs hs2)
 obtain ⟨wv,hwv⟩:∃ y,(w.alloc (.cells vh 39)) = y:=⟨_,rfl⟩
 have HB:Hid (Below w.heap.size w wv):=hid (by rw [← hwv];exact ((Below.refl _ _).alloc (by simp;try omega) _))
 have HSV:Hid (wv.heap.size = w.heap.size+1):=hid (by rw [← hwv];simp)
 have RH:Hid (wv.heap[w.heap.size]? = some (.cells vh 39 (0,0))):=hid (by rw [← hwv];exact heap_at _ _ _ rfl)
 have HWV:=hid hwv
 rw [evh]
 clear evr evf evh h hs hs2 hwv hb
 go_enter Tryz.func14,Tryz.ntmps14
 go_upto_region 1 with fail
 rw [HWV.out]
 go_wp2_with fail
 refine (HRT.out wv HB.out).mono ?_
 rintro ev w1 ⟨rfl,b1⟩
 have B1:=hid b1
 clear b1
 go_upto_region 2 with (first
  | (refine wpList_store_row_any rfl 39 _ _ rfl w1.heap.size vr rfl rfl 39 _ ((((Below.refl _ (w1.alloc _)).alloc (Nat.le_refl _) _).block _ (by simp)).trans (heap_at _ _ _ rfl)) Ivr.out (by rw [Zvr.out];rfl) Ovr.out ?_;intro w2 hbA hgA hsA;have BA:=hid hbA;have GA:=hid hgA;have SA:Hid (w2.heap.size = w1.heap.size+1+1):=hid (hsA.trans (by simp));clear hbA hgA hsA)
  | (refine wpList_store_row_any rfl 52 _ _ rfl (w1.heap.size+1) vf rfl rfl 52 _ ((BA.out.same _ (by simp) (by omega)).trans (heap_at _ _ _ (by simp))) Ivf.out (by rw [Zvf.out];rfl) Ovf.out ?_;intro wy hbB hgB hsB;have BC:=hid hbB;have RF:=hid hgB;have SB:Hid (wy.heap.size = w1.heap.size+1+1):=hid (hsB.trans SA.out);clear hbB hgB hsB))
 have B1Y:Hid (Below w1.heap.size w1 wy):=hid ((((Below.refl _ _).alloc (Nat.le_refl _) _).alloc (by simp) _).trans (((BA.out.mono (T:=fun k => k = w1.heap.size ∨ k = w1.heap.size+1) (fun _ _ q => .inl q)).step BC.out (fun _ _ q => .inr q)).to_below (by simp;omega) (fun k hk q => by omega)))
 have RR:Hid (wy.heap[w1.heap.size]? = some (.cells vr 39 (0,0))):=hid ((BC.out.same _ (by have:=SA.out;omega) (by omega)).trans GA.out)
 have BVY:Hid (Below wv.heap.size wv wy):=hid (B1.out.trans (B1Y.out.mono B1.out.size))
 have HBY:Hid (Below w.heap.size w wy):=hid (HB.out.trans (BVY.out.mono HB.out.size))
 have RHY:Hid (wy.heap[w.heap.size]? = some (.cells vh 39 (0,0))):=hid ((BVY.out.block _ (by have:=HSV.out;omega)).trans RH.out)
 have KF:Hid (∀ w',But (fun _ => False) wy w' → w'.cell? ⟨w1.heap.size+1,0,none⟩ = some (.int .i64 (5:Nat))):=hid (fun w' hb => by
  rw [cell_of_row w' (w1.heap.size+1) 0 _ 52 (0,0) ((hb.same _ (Array.getElem?_eq_some_iff.1 RF.out).1 (fun q => q)).trans RF.out),HVF.out];rfl)
 have z0:=KF.out wy (But.refl _ _)
 go_wp2_with fail
 go_ret3
 exact ⟨rfl,HBY.out⟩
theorem con20_bad (base b2:Nat) (v:Value) (L:List ByteArray) (old sz:Nat) (b0:List UInt8) (P:List (List UInt8)) (A:Option Addr) (m c:Nat) (w:World) (h:RLogAt base b2 v L w) (hb:b0.length = 32) (hs:sz ≤ L.length) (ho:old < 18446744073709551616) (hp:HIn w A m c P) (hm9:m ≤ 1000000000) (hk0:conK old sz b0 (treeB L 0 sz) P ≠ 0) :
 Calls Tryz.prog 14 #[.pointer (some ⟨b2,0,none⟩),.int .u64 old,.int .u64 sz,hv b0,.slice A m c] w fun ev w' => ev = .returned (PV none) ∧ Below w.heap.size w w':=by
 have hL:=h.1.1
 obtain ⟨vr,evr,Hvr,Zvr,Ivr,Ovr⟩:=row_of (treeB L 0 sz) (treeB_len _ _ _)
 obtain ⟨vh,evh,Hvh,Zvh,Ivh,Ovh⟩:=row_of b0 hb
 obtain ⟨vf,evf,HVF,Zvf,Ivf,Ovf⟩:=fault_of 0
 have HRT:Hid (∀ w',Below w.heap.size w w' → Calls Tryz.prog 28 #[.pointer (some ⟨b2,0,none⟩),.int .u64 sz] w' fun ev w2 => ev = .returned (.tuple #[.agg vr,.agg vf]) ∧ Below w'.heap.size w' w2):=hid (fun w' hb => by
  rw [← evr,← evf];exact root08_ok base b2 v L sz w' (h.below hb) hs)
 skip
 obtain ⟨k,hk⟩:∃ k,conK old sz b0 (treeB L 0 sz) P = k:=⟨_,rfl⟩
 rw [hk] at hk0
 have HIN:Hid (∀ w',Below w.heap.size w w' → Calls Tryz.prog 44 #[.int .u64 old,.int .u64 sz,.agg vh,.agg vr,.slice A m c] w' fun ev w2 => ev = .returned (faultV k) ∧ Below w'.heap.size w' w2):=hid (fun w' hb' => by
  have:=cons18_any old sz b0 (treeB L 0 sz) hb (treeB_len _ _ _) P A m c w' (by omega) (by omega) (by omega) (by omega) (hp.below hb')
  rw [evh,evr,hk] at this;exact this)
 have hkb:((k:Int) != 0) = true:=by simp;exact hk0
 have hkb2:¬ (k:Int) = 0:=by omega
 have hfd:=fun (w:World) => field_code (.int .i64 (k:Int)) (.int .i64 (-1)) w
 unfold faultV at HIN
 obtain ⟨wv,hwv⟩:∃ y,(w.alloc (.cells vh 39)) = y:=⟨_,rfl⟩
 have HB:Hid (Below w.heap.size w wv):=hid (by rw [← hwv];exact ((Below.refl _ _).alloc (by simp;try omega) _))
 have HSV:Hid (wv.heap.size = w.heap.size+1):=hid (by rw [← hwv];simp)
 have RH:Hid (wv.heap[w.heap.size]? = some (.cells vh 39 (0,0))):=hid (by rw [← hwv];exact heap_at _ _ _ rfl)
 have HWV:=hid hwv
 rw [evh]
 clear hwv evr evf evh h hs hb hp hm9 hk hk0 ho
 go_enter Tryz.func14,Tryz.ntmps14
 go_upto_region 1 with fail
 rw [HWV.out]
 go_wp2_with fail
 refine (HRT.out wv HB.out).mono ?_
 rintro ev w1 ⟨rfl,b1⟩
 have B1:=hid b1
 clear b1
 go_upto_region 2 with (first
  | (refine wpList_store_row_any rfl 39 _ _ rfl w1.heap.size vr rfl rfl 39 _ ((((Below.refl _ (w1.alloc _)).alloc (Nat.le_refl _) _).block _ (by simp)).trans (heap_at _ _ _ rfl)) Ivr.out (by rw [Zvr.out];rfl) Ovr.out ?_;intro w2 hbA hgA hsA;have BA:=hid hbA;have GA:=hid hgA;have SA:Hid (w2.heap.size = w1.heap.size+1+1):=hid (hsA.trans (by simp));clear hbA hgA hsA)
  | (refine wpList_store_row_any rfl 52 _ _ rfl (w1.heap.size+1) vf rfl rfl 52 _ ((BA.out.same _ (by simp) (by omega)).trans (heap_at _ _ _ (by simp))) Ivf.out (by rw [Zvf.out];rfl) Ovf.out ?_;intro wy hbB hgB hsB;have BC:=hid hbB;have RF:=hid hgB;have SB:Hid (wy.heap.size = w1.heap.size+1+1):=hid (hsB.trans SA.out);clear hbB hgB hsB))
 have B1Y:Hid (Below w1.heap.size w1 wy):=hid ((((Below.refl _ _).alloc (Nat.le_refl _) _).alloc (by simp) _).trans (((BA.out.mono (T:=fun k => k = w1.heap.size ∨ k = w1.heap.size+1) (fun _ _ q => .inl q)).step BC.out (fun _ _ q => .inr q)).to_below (by simp;omega) (fun k hk q => by omega)))
 have RR:Hid (wy.heap[w1.heap.size]? = some (.cells vr 39 (0,0))):=hid ((BC.out.same _ (by have:=SA.out;omega) (by omega)).trans GA.out)
 have BVY:Hid (Below wv.heap.size wv wy):=hid (B1.out.trans (B1Y.out.mono B1.out.size))
 have HBY:Hid (Below w.heap.size w wy):=hid (HB.out.trans (BVY.out.mono HB.out.size))
 have RHY:Hid (wy.heap[w.heap.size]? = some (.cells vh 39 (0,0))):=hid ((BVY.out.block _ (by have:=HSV.out;omega)).trans RH.out)
 have KF:Hid (∀ w',But (fun _ => False) wy w' → w'.cell? ⟨w1.heap.size+1,0,none⟩ = some (.int .i64 (0:Nat))):=hid (fun w' hb => by
  rw [cell_of_row w' (w1.heap.size+1) 0 _ 52 (0,0) ((hb.same _ (Array.getElem?_eq_some_iff.1 RF.out).1 (fun q => q)).trans RF.out),HVF.out];rfl)
 have z0:=KF.out wy (But.refl _ _)
 go_wp2_with (first
  | (refine wpList_load_row_g rfl 39 _ rfl w.heap.size rfl 39 vh (0,0) _ RHY.out Tryz.underlying39 rfl Ivh.out ?_)
  | (refine wpList_load_row_g rfl 39 _ rfl w1.heap.size rfl 39 vr (0,0) _ RR.out Tryz.underlying39 rfl Ivr.out ?_))
 refine (HIN.out wy HBY.out).mono ?_
 rintro ev wz ⟨rfl,bz⟩
 have Bwz:Hid (Below wy.heap.size wy wz):=hid bz
 clear bz z0
 have HBZ:Hid (Below w.heap.size w wz):=hid (HBY.out.trans (Bwz.out.mono HBY.out.size))
 go_wp2_with fail
 go_ret3
 exact ⟨rfl,HBZ.out⟩
theorem con20_same (base b2:Nat) (v:Value) (L:List ByteArray) (old sz:Nat) (b0:List UInt8) (P:List (List UInt8)) (A:Option Addr) (m c:Nat) (w:World) (h:RLogAt base b2 v L w) (hb:b0.length = 32) (hs:sz ≤ L.length) (ho:old < 18446744073709551616) (hp:HIn w A m c P) (hm9:m ≤ 1000000000) (hk0:conK old sz b0 (treeB L 0 sz) P = 0) (hsm:b0 = treeB L 0 old) :
 Calls Tryz.prog 14 #[.pointer (some ⟨b2,0,none⟩),.int .u64 old,.int .u64 sz,hv b0,.slice A m c] w fun ev w' => ev = .returned (.tuple #[.string (strOf (soB L sz)),.string (strOf (soB L sz)),.bool false]) ∧ Below w.heap.size w w':=by
 have hL:=h.1.1
 obtain ⟨vr,evr,Hvr,Zvr,Ivr,Ovr⟩:=row_of (treeB L 0 sz) (treeB_len _ _ _)
 obtain ⟨vh,evh,Hvh,Zvh,Ivh,Ovh⟩:=row_of b0 hb
 obtain ⟨vf,evf,HVF,Zvf,Ivf,Ovf⟩:=fault_of 0
 have HRT:Hid (∀ w',Below w.heap.size w w' → Calls Tryz.prog 28 #[.pointer (some ⟨b2,0,none⟩),.int .u64 sz] w' fun ev w2 => ev = .returned (.tuple #[.agg vr,.agg vf]) ∧ Below w'.heap.size w' w2):=hid (fun w' hb => by
  rw [← evr,← evf];exact root08_ok base b2 v L sz w' (h.below hb) hs)
 have hcz:=con_zero hk0
 obtain ⟨k,hk⟩:∃ k,conK old sz b0 (treeB L 0 sz) P = k:=⟨_,rfl⟩
 rw [hk] at hk0
 have HIN:Hid (∀ w',Below w.heap.size w w' → Calls Tryz.prog 44 #[.int .u64 old,.int .u64 sz,.agg vh,.agg vr,.slice A m c] w' fun ev w2 => ev = .returned (faultV k) ∧ Below w'.heap.size w' w2):=hid (fun w' hb' => by
  have:=cons18_any old sz b0 (treeB L 0 sz) hb (treeB_len _ _ _) P A m c w' (by omega) (by omega) (by omega) (by omega) (hp.below hb')
  rw [evh,evr,hk] at this;exact this)
 obtain rfl:k = 0:=hk0
 obtain ⟨h0,h1,hlP⟩:=hcz
 have HR:=hid h
 obtain ⟨AL,capL,rfl,_⟩:=own_shape h.2.2.2.1
 obtain ⟨_,hsin,hsh⟩:=rlog_sin h
 have hcp:L.length ≤ capL:=hsin.2.1
 obtain ⟨gL,rfl⟩:∃ g,AL = some ⟨g,0,none⟩:=by
  rcases hsh with ⟨_,q⟩ | q
  ·omega
  ·exact q
 have hgL:gL < w.heap.size:=h.2.2.2.1.lt gL rfl |> fun q => by omega
 obtain ⟨vo,evo,Hvo,Zvo,Ivo,Ovo⟩:=row_of (treeB L 0 old) (treeB_len _ _ _)
 have hq:∀ w,(Op.equalIn 10000 39 (.agg vo) (.agg vh)).run Tryz.prog w = .ok true w:=fun w => by rw [eq_hash _ _ (treeB_len L 0 old) hb vo vh evo evh w];simp [hsm]
 have HMT:Hid (∀ w',Below w.heap.size w w' → Calls Tryz.prog 45 #[.slice (some ⟨gL,0,none⟩) old capL] w' fun ev w2 => ev = .returned (.agg vo) ∧ Below w'.heap.size w' w2):=hid (fun w' hb' => by
  have hs':SIn w' (some ⟨gL,0,none⟩) old capL (L.take old):=sin_keep (sin_take hsin (by omega)) (fun g o hg => by cases hg;exact hb'.block _ hgL)
  have:=mth08_any L h.1 old 0 old capL (some ⟨gL,0,none⟩) w' (Nat.le_refl _) (by omega) hs'
  rw [Nat.zero_add] at this
  rw [show ((0:Nat):Int) = 0 from rfl,evo] at this
  exact this)
 have q4:(0:Int) ≤ old:=by omega
 have q5:(old:Int) ≤ capL:=by omega
 have q6:old ≤ capL:=by omega
 have q7:(old:Int) ≤ 1048576:=by omega
 have q8:old ≤ 1048576:=by omega
 unfold faultV at HIN
 have hfd:=fun (w:World) => field_code (.int .i64 ((0:Nat):Int)) (.int .i64 0) w
 have hfd2:=fun (w:World) => field_code (.int .i64 0) (.int .i64 0) w
 have HSZ:Hid (0 < sz ∧ sz ≤ L.length):=hid ⟨by omega,hs⟩
 obtain ⟨wv,hwv⟩:∃ y,(w.alloc (.cells vh 39)) = y:=⟨_,rfl⟩
 have HB:Hid (Below w.heap.size w wv):=hid (by rw [← hwv];exact ((Below.refl _ _).alloc (by simp;try omega) _))
 have HSV:Hid (wv.heap.size = w.heap.size+1):=hid (by rw [← hwv];simp)
 have RH:Hid (wv.heap[w.heap.size]? = some (.cells vh 39 (0,0))):=hid (by rw [← hwv];exact heap_at _ _ _ rfl)
 have HWV:=hid hwv
 rw [evh]
 clear hwv evr evf evh h hs hb hp hm9 hk h0 h1 hlP hsm hsin hsh hcp hgL evo ho
 go_enter Tryz.func14,Tryz.ntmps14
 go_upto_region 1 with fail
 rw [HWV.out]
 go_wp2_with fail
 refine (HRT.out wv HB.out).mono ?_
 rintro ev w1 ⟨rfl,b1⟩
 have B1:=hid b1
 clear b1
 go_upto_region 2 with (first
  | (refine wpList_store_row_any rfl 39 _ _ rfl w1.heap.size vr rfl rfl 39 _ ((((Below.refl _ (w1.alloc _)).alloc (Nat.le_refl _) _).block _ (by simp)).trans (heap_at _ _ _ rfl)) Ivr.out (by rw [Zvr.out];rfl) Ovr.out ?_;intro w2 hbA hgA hsA;have BA:=hid hbA;have GA:=hid hgA;have SA:Hid (w2.heap.size = w1.heap.size+1+1):=hid (hsA.trans (by simp));clear hbA hgA hsA)
  | (refine wpList_store_row_any rfl 52 _ _ rfl (w1.heap.size+1) vf rfl rfl 52 _ ((BA.out.same _ (by simp) (by omega)).trans (heap_at _ _ _ (by simp))) Ivf.out (by rw [Zvf.out];rfl) Ovf.out ?_;intro wy hbB hgB hsB;have BC:=hid hbB;have RF:=hid hgB;have SB:Hid (wy.heap.size = w1.heap.size+1+1):=hid (hsB.trans SA.out);clear hbB hgB hsB))
 have B1Y:Hid (Below w1.heap.size w1 wy):=hid ((((Below.refl _ _).alloc (Nat.le_refl _) _).alloc (by simp) _).trans (((BA.out.mono (T:=fun k => k = w1.heap.size ∨ k = w1.heap.size+1) (fun _ _ q => .inl q)).step BC.out (fun _ _ q => .inr q)).to_below (by simp;omega) (fun k hk q => by omega)))
 have RR:Hid (wy.heap[w1.heap.size]? = some (.cells vr 39 (0,0))):=hid ((BC.out.same _ (by have:=SA.out;omega) (by omega)).trans GA.out)
 have BVY:Hid (Below wv.heap.size wv wy):=hid (B1.out.trans (B1Y.out.mono B1.out.size))
 have HBY:Hid (Below w.heap.size w wy):=hid (HB.out.trans (BVY.out.mono HB.out.size))
 have RHY:Hid (wy.heap[w.heap.size]? = some (.cells vh 39 (0,0))):=hid ((BVY.out.block _ (by have:=HSV.out;omega)).trans RH.out)
 have KF:Hid (∀ w',But (fun _ => False) wy w' → w'.cell? ⟨w1.heap.size+1,0,none⟩ = some (.int .i64 (0:Nat))):=hid (fun w' hb => by
  rw [cell_of_row w' (w1.heap.size+1) 0 _ 52 (0,0) ((hb.same _ (Array.getElem?_eq_some_iff.1 RF.out).1 (fun q => q)).trans RF.out),HVF.out];rfl)
 have z0:=KF.out wy (But.refl _ _)
 go_wp2_with (first
  | (refine wpList_load_row_g rfl 39 _ rfl w.heap.size rfl 39 vh (0,0) _ RHY.out Tryz.underlying39 rfl Ivh.out ?_)
  | (refine wpList_load_row_g rfl 39 _ rfl w1.heap.size rfl 39 vr (0,0) _ RR.out Tryz.underlying39 rfl Ivr.out ?_))
 refine (HIN.out wy HBY.out).mono ?_
 rintro ev wz ⟨rfl,bz⟩
 have Bwz:Hid (Below wy.heap.size wy wz):=hid bz
 clear bz z0
 have HBZ:Hid (Below w.heap.size w wz):=hid (HBY.out.trans (Bwz.out.mono HBY.out.size))
 have RHZ:Hid (wz.heap[w.heap.size]? = some (.cells vh 39 (0,0))):=hid ((Bwz.out.block _ (Array.getElem?_eq_some_iff.1 RHY.out).1).trans RHY.out)
 have KL:Hid (∀ w',But (fun _ => False) wz w' → w'.cell? ⟨b2,0,none⟩ = some (.slice (some ⟨gL,0,none⟩) L.length capL)):=hid (fun w' hb => (HR.out.below (HBZ.out.trans (hb.to_below HBZ.out.size (fun _ _ q => q)))).c0)
 go_wp2_with fail
 refine wp_region_held_drew (S:=But (fun _ => False) wz) (by kernel_rfl) (But.refl _ _).drew (fun hHeld => ?_)
 refine tk (i:=0) (v:=?v1) rfl ?y1 ?r1
 case y1 => (intro w hSw;(try dsimp only at hSw);go_simp;(try with_reducible rfl))
 try simp only [pu]
 refine tk (i:=1) (v:=?v2) rfl ?y2 ?r2
 case y2 => (intro w hSw;(try dsimp only at hSw);go_simp;(try with_reducible rfl))
 try simp only [pu]
 refine tk (i:=2) (v:=?v3) rfl ?y3 ?r3
 case y3 => (intro w hSw;(try dsimp only at hSw);go_simp;(try with_reducible rfl))
 try simp only [pu]
 refine tk (i:=3) (v:=?v4) rfl ?y4 ?r4
 case y4 => (intro w hSw;(try dsimp only at hSw);have z0:=KL.out w hSw;go_simp;(try with_reducible rfl))
 try simp only [pu]
 refine tk (i:=4) (v:=?v5) rfl ?y5 ?r5
 case y5 => (intro w hSw;(try dsimp only at hSw);go_simp;(try with_reducible rfl))
 try simp only [pu]
 refine tk (i:=5) (v:=?v6) rfl ?y6 ?r6
 case y6 => (intro w hSw;(try dsimp only at hSw);go_simp;(try with_reducible rfl))
 try simp only [pu]
 refine tw (i:=7) rfl (yieldsIf_load_row (by rfl) 39 _ (by rfl) w.heap.size (by rfl) 39 vh (0,0) _ (fun w h => (But.same h _ (by have:=(Array.getElem?_eq_some_iff.1 RHZ.out).1;exact this) (fun q => q)).trans RHZ.out) Tryz.underlying39 rfl Ivh.out) ?_
 try simp only [pu]
 refine wpAnyH_ready (rs:=[6]) (by kernel_rfl) (by simp) ?_
 refine AllReadyH.cons (i:=6) rfl (fun K2 hK2 => ?_) AllReadyH.nil
 go_simp
 go_at_call 45
 refine (HMT.out wz.drew (HBZ.out.trans (But.to_below ((But.refl (fun _ => False) wz).drew) HBZ.out.size (fun _ _ q => q)))).mono ?_
 rintro ev w701 ⟨rfl,bw701⟩
 try go_wp2_with fail
 obtain ⟨Kw701,fw701⟩:=st_call ((But.refl (fun _ => False) wz).drew) bw701
 have Kw701:=hid Kw701
 clear bw701 fw701
 refine hK2.out _ _ Kw701.out (fun hHeld2 => ?_)
 clear hK2 K2
 try simp only [pu]
 refine tk (i:=8) (v:=?v8) rfl ?y8 ?r8
 case y8 => (intro w hSw;(try dsimp only at hSw);go_simp;(try with_reducible rfl))
 try simp only [pu]
 refine wpAnyH_done (by kernel_rfl) ?_ _
 obtain ⟨wq,hnwq⟩:∃ x,w701 = x:=⟨_,rfl⟩
 have Bwq:Hid (Below wz.heap.size wz wq):=hid (by rw [← hnwq];exact But.to_below Kw701.out (Nat.le_refl _) (fun _ _ q => q))
 rw [hnwq]
 clear hnwq hHeld hHeld2
 have HBQ:Hid (Below w.heap.size w wq):=hid (HBZ.out.trans (Bwq.out.mono HBZ.out.size))
 go_wp2_with fail
 refine (so20_any base b2 _ L sz wq (HR.out.below HBQ.out) HSZ.out.1 HSZ.out.2).mono ?_
 rintro ev w7 ⟨rfl,b7⟩
 go_wp2
 go_ret3
 exact ⟨rfl,HBQ.out.trans (b7.mono HBQ.out.size)⟩
theorem con20_part (base b2:Nat) (v:Value) (L:List ByteArray) (old sz:Nat) (b0:List UInt8) (P:List (List UInt8)) (A:Option Addr) (m c:Nat) (w:World) (h:RLogAt base b2 v L w) (hb:b0.length = 32) (hs:sz ≤ L.length) (ho:old < 18446744073709551616) (hp:HIn w A m c P) (hm9:m ≤ 1000000000) (hk0:conK old sz b0 (treeB L 0 sz) P = 0) (hsm:b0 ≠ treeB L 0 old) (hlt:old < sz) (hbare:∀ i,¬ fBare (saidL (mapC old sz b0 P)) 64 0 sz i) :
 Calls Tryz.prog 14 #[.pointer (some ⟨b2,0,none⟩),.int .u64 old,.int .u64 sz,hv b0,.slice A m c] w fun ev w' => ev = .returned (PV (fWalk (saidL (mapC old sz b0 P)) (claimLeaf [] 0) L (logText L) (claimText [] 0) 64 0 sz)) ∧ Below w.heap.size w w':=by
 have hL:=h.1.1
 obtain ⟨vr,evr,Hvr,Zvr,Ivr,Ovr⟩:=row_of (treeB L 0 sz) (treeB_len _ _ _)
 obtain ⟨vh,evh,Hvh,Zvh,Ivh,Ovh⟩:=row_of b0 hb
 obtain ⟨vf,evf,HVF,Zvf,Ivf,Ovf⟩:=fault_of 0
 have HRT:Hid (∀ w',Below w.heap.size w w' → Calls Tryz.prog 28 #[.pointer (some ⟨b2,0,none⟩),.int .u64 sz] w' fun ev w2 => ev = .returned (.tuple #[.agg vr,.agg vf]) ∧ Below w'.heap.size w' w2):=hid (fun w' hb => by
  rw [← evr,← evf];exact root08_ok base b2 v L sz w' (h.below hb) hs)
 have hcz:=con_zero hk0
 obtain ⟨k,hk⟩:∃ k,conK old sz b0 (treeB L 0 sz) P = k:=⟨_,rfl⟩
 rw [hk] at hk0
 have HIN:Hid (∀ w',Below w.heap.size w w' → Calls Tryz.prog 44 #[.int .u64 old,.int .u64 sz,.agg vh,.agg vr,.slice A m c] w' fun ev w2 => ev = .returned (faultV k) ∧ Below w'.heap.size w' w2):=hid (fun w' hb' => by
  have:=cons18_any old sz b0 (treeB L 0 sz) hb (treeB_len _ _ _) P A m c w' (by omega) (by omega) (by omega) (by omega) (hp.below hb')
  rw [evh,evr,hk] at this;exact this)
 obtain rfl:k = 0:=hk0
 obtain ⟨h0,h1,hlP⟩:=hcz
 have HR:=hid h
 obtain ⟨AL,capL,rfl,_⟩:=own_shape h.2.2.2.1
 obtain ⟨_,hsin,hsh⟩:=rlog_sin h
 have hcp:L.length ≤ capL:=hsin.2.1
 obtain ⟨gL,rfl⟩:∃ g,AL = some ⟨g,0,none⟩:=by
  rcases hsh with ⟨_,q⟩ | q
  ·omega
  ·exact q
 have hgL:gL < w.heap.size:=h.2.2.2.1.lt gL rfl |> fun q => by omega
 obtain ⟨vo,evo,Hvo,Zvo,Ivo,Ovo⟩:=row_of (treeB L 0 old) (treeB_len _ _ _)
 have hq:∀ w,(Op.equalIn 10000 39 (.agg vo) (.agg vh)).run Tryz.prog w = .ok false w:=fun w => by rw [eq_hash _ _ (treeB_len L 0 old) hb vo vh evo evh w];simp;exact fun e => hsm (Eq.symm e)
 have HMT:Hid (∀ w',Below w.heap.size w w' → Calls Tryz.prog 45 #[.slice (some ⟨gL,0,none⟩) old capL] w' fun ev w2 => ev = .returned (.agg vo) ∧ Below w'.heap.size w' w2):=hid (fun w' hb' => by
  have hs':SIn w' (some ⟨gL,0,none⟩) old capL (L.take old):=sin_keep (sin_take hsin (by omega)) (fun g o hg => by cases hg;exact hb'.block _ hgL)
  have:=mth08_any L h.1 old 0 old capL (some ⟨gL,0,none⟩) w' (Nat.le_refl _) (by omega) hs'
  rw [Nat.zero_add] at this
  rw [show ((0:Nat):Int) = 0 from rfl,evo] at this
  exact this)
 have q4:(0:Int) ≤ old:=by omega
 have q5:(old:Int) ≤ capL:=by omega
 have q6:old ≤ capL:=by omega
 have q7:(old:Int) ≤ 1048576:=by omega
 have q8:old ≤ 1048576:=by omega
 unfold faultV at HIN
 have hfd:=fun (w:World) => field_code (.int .i64 ((0:Nat):Int)) (.int .i64 0) w
 have hfd2:=fun (w:World) => field_code (.int .i64 0) (.int .i64 0) w
 have HSZ:Hid (0 < sz ∧ sz ≤ L.length):=hid ⟨by omega,hs⟩
 have HP:=hid hp
 have HOL:=hid (And.intro h0 (And.intro hlt ho))
 obtain ⟨l,hl⟩:∃ l,proofL 64 old 0 sz = l:=⟨_,rfl⟩
 have hln:l.length = m:=by rw [← hl,← hlP];exact hp.2.1
 have hPB:∀ p ∈ l,PB p:=fun p hpm => by
  rw [← hl] at hpm
  obtain ⟨r1,r2,r3⟩:=proofL_in 64 old 0 sz p (by omega) (by omega) (by rw [pow2_64];omega) hpm
  exact ⟨by omega,by omega,by omega,by omega⟩
 have HPA:Hid (∀ w,Calls Tryz.prog 46 #[.int .u64 old,.int .u64 sz] w (RefList 84 2 w l.length (spanCells l))):=hid (fun w => by
  have:=refProof_ok old sz w (by omega) (by omega) (by omega)
  rw [Int.zero_add,hl] at this;exact this)
 have hnd:l.Nodup:=by rw [← hl];exact proof_nodup 64 old 0 sz (by omega) (by omega) (by rw [pow2_64];omega)
 have HSD:Hid (∀ p,saidL (mapC old sz b0 P) p = match firstL (l.zip P) p with | some h => some h | none => if 0 < old ∧ p = (0,(old:Int)) then some b0 else none):=hid (fun p => by
  rw [mapC_said,hl]
  by_cases hp0:p = (0,(old:Int))
  ·rw [if_pos hp0,first_no (fun j hj q => by
    rw [← hl] at q
    exact proofL_no 64 old 0 sz (by omega) (by omega) (by omega) p (List.mem_of_getElem? q) hp0)]
   simp [h0,hp0]
  ·rw [if_neg hp0,← zip_first (by rw [hln];exact hp.2.1) hnd p]
   cases firstL (l.zip P) p with
   | some x => rfl
   | none => simp [hp0])
 obtain ⟨sd,hsd⟩:∃ z,saidL (mapC old sz b0 P) = z:=⟨_,rfl⟩
 rw [hsd] at HSD hbare ⊢
 obtain ⟨out,hout⟩:∃ z,fWalk sd (claimLeaf [] 0) L (logText L) (claimText [] 0) 64 0 sz = z:=⟨_,rfl⟩
 rw [hout]
 have HLB:Hid (l.length = m ∧ (∀ p ∈ l,PB p) ∧ m ≤ 1000000000 ∧ (∀ i,¬ fBare sd 64 0 sz i) ∧ fWalk sd (claimLeaf [] 0) L (logText L) (claimText [] 0) 64 0 sz = out ∧ b0.length = 32):=hid ⟨hln,hPB,hm9,hbare,hout,hb⟩
 obtain ⟨gv,hgv⟩:∃ gv:Value → Array Value,(fun q => givR (.pointer (some ⟨b2,0,none⟩)) q (.slice A m c) (.int .u64 old) (bytesV b0)) = gv:=⟨_,rfl⟩
 have HGVR:Hid (∀ q (j:Nat),(gv q)[j]? = (givR (.pointer (some ⟨b2,0,none⟩)) q (.slice A m c) (.int .u64 old) (bytesV b0))[j]?):=hid (fun q j => by rw [← hgv])
 have hbg:∀ (A':Option Addr) (n' c':Nat) (w:World),(Instr.build 81 #[(0,.pointer (some ⟨b2,0,none⟩)),(1,.slice A' n' c'),(2,.slice A m c),(5,.int .u64 old),(6,.agg vh)]).run Tryz.prog w = .ok (.agg (gv (.slice A' n' c'))) w:=fun A' n' c' w => by rw [← hgv,← Hvh.out];exact built_given _ _ _ _ _ _ _ _ _ (by rw [bytesV_length,hb]) w
 have HBG:=hid hbg
 obtain ⟨wv,hwv⟩:∃ y,(w.alloc (.cells vh 39)) = y:=⟨_,rfl⟩
 have HB:Hid (Below w.heap.size w wv):=hid (by rw [← hwv];exact ((Below.refl _ _).alloc (by simp;try omega) _))
 have HSV:Hid (wv.heap.size = w.heap.size+1):=hid (by rw [← hwv];simp)
 have RH:Hid (wv.heap[w.heap.size]? = some (.cells vh 39 (0,0))):=hid (by rw [← hwv];exact heap_at _ _ _ rfl)
 have HWV:=hid hwv
 rw [evh]
 clear hwv evr evf evh h hs hb hp hm9 hk h0 h1 hlP hsm hsin hsh hcp hgL evo hlt ho hl hln hPB hnd hbare hout hsd hgv hbg
 go_enter Tryz.func14,Tryz.ntmps14
 go_upto_region 1 with fail
 rw [HWV.out]
 go_wp2_with fail
 refine (HRT.out wv HB.out).mono ?_
 rintro ev w1 ⟨rfl,b1⟩
 have B1:=hid b1
 clear b1
 go_upto_region 2 with (first
  | (refine wpList_store_row_any rfl 39 _ _ rfl w1.heap.size vr rfl rfl 39 _ ((((Below.refl _ (w1.alloc _)).alloc (Nat.le_refl _) _).block _ (by simp)).trans (heap_at _ _ _ rfl)) Ivr.out (by rw [Zvr.out];rfl) Ovr.out ?_;intro w2 hbA hgA hsA;have BA:=hid hbA;have GA:=hid hgA;have SA:Hid (w2.heap.size = w1.heap.size+1+1):=hid (hsA.trans (by simp));clear hbA hgA hsA)
  | (refine wpList_store_row_any rfl 52 _ _ rfl (w1.heap.size+1) vf rfl rfl 52 _ ((BA.out.same _ (by simp) (by omega)).trans (heap_at _ _ _ (by simp))) Ivf.out (by rw [Zvf.out];rfl) Ovf.out ?_;intro wy hbB hgB hsB;have BC:=hid hbB;have RF:=hid hgB;have SB:Hid (wy.heap.size = w1.heap.size+1+1):=hid (hsB.trans SA.out);clear hbB hgB hsB))
 have B1Y:Hid (Below w1.heap.size w1 wy):=hid ((((Below.refl _ _).alloc (Nat.le_refl _) _).alloc (by simp) _).trans (((BA.out.mono (T:=fun k => k = w1.heap.size ∨ k = w1.heap.size+1) (fun _ _ q => .inl q)).step BC.out (fun _ _ q => .inr q)).to_below (by simp;omega) (fun k hk q => by omega)))
 have RR:Hid (wy.heap[w1.heap.size]? = some (.cells vr 39 (0,0))):=hid ((BC.out.same _ (by have:=SA.out;omega) (by omega)).trans GA.out)
 have BVY:Hid (Below wv.heap.size wv wy):=hid (B1.out.trans (B1Y.out.mono B1.out.size))
 have HBY:Hid (Below w.heap.size w wy):=hid (HB.out.trans (BVY.out.mono HB.out.size))
 have RHY:Hid (wy.heap[w.heap.size]? = some (.cells vh 39 (0,0))):=hid ((BVY.out.block _ (by have:=HSV.out;omega)).trans RH.out)
 have KF:Hid (∀ w',But (fun _ => False) wy w' → w'.cell? ⟨w1.heap.size+1,0,none⟩ = some (.int .i64 (0:Nat))):=hid (fun w' hb => by
  rw [cell_of_row w' (w1.heap.size+1) 0 _ 52 (0,0) ((hb.same _ (Array.getElem?_eq_some_iff.1 RF.out).1 (fun q => q)).trans RF.out),HVF.out];rfl)
 have z0:=KF.out wy (But.refl _ _)
 go_wp2_with (first
  | (refine wpList_load_row_g rfl 39 _ rfl w.heap.size rfl 39 vh (0,0) _ RHY.out Tryz.underlying39 rfl Ivh.out ?_)
  | (refine wpList_load_row_g rfl 39 _ rfl w1.heap.size rfl 39 vr (0,0) _ RR.out Tryz.underlying39 rfl Ivr.out ?_))
 refine (HIN.out wy HBY.out).mono ?_
 rintro ev wz ⟨rfl,bz⟩
 have Bwz:Hid (Below wy.heap.size wy wz):=hid bz
 clear bz z0
 have HBZ:Hid (Below w.heap.size w wz):=hid (HBY.out.trans (Bwz.out.mono HBY.out.size))
 have RHZ:Hid (wz.heap[w.heap.size]? = some (.cells vh 39 (0,0))):=hid ((Bwz.out.block _ (Array.getElem?_eq_some_iff.1 RHY.out).1).trans RHY.out)
 have KL:Hid (∀ w',But (fun _ => False) wz w' → w'.cell? ⟨b2,0,none⟩ = some (.slice (some ⟨gL,0,none⟩) L.length capL)):=hid (fun w' hb => (HR.out.below (HBZ.out.trans (hb.to_below HBZ.out.size (fun _ _ q => q)))).c0)
 go_wp2_with fail
 refine wp_region_held_drew (S:=But (fun _ => False) wz) (by kernel_rfl) (But.refl _ _).drew (fun hHeld => ?_)
 refine tk (i:=0) (v:=?v9) rfl ?y9 ?r9
 case y9 => (intro w hSw;(try dsimp only at hSw);go_simp;(try with_reducible rfl))
 try simp only [pu]
 refine tk (i:=1) (v:=?v10) rfl ?y10 ?r10
 case y10 => (intro w hSw;(try dsimp only at hSw);go_simp;(try with_reducible rfl))
 try simp only [pu]
 refine tk (i:=2) (v:=?v11) rfl ?y11 ?r11
 case y11 => (intro w hSw;(try dsimp only at hSw);go_simp;(try with_reducible rfl))
 try simp only [pu]
 refine tk (i:=3) (v:=?v12) rfl ?y12 ?r12
 case y12 => (intro w hSw;(try dsimp only at hSw);have z0:=KL.out w hSw;go_simp;(try with_reducible rfl))
 try simp only [pu]
 refine tk (i:=4) (v:=?v13) rfl ?y13 ?r13
 case y13 => (intro w hSw;(try dsimp only at hSw);go_simp;(try with_reducible rfl))
 try simp only [pu]
 refine tk (i:=5) (v:=?v14) rfl ?y14 ?r14
 case y14 => (intro w hSw;(try dsimp only at hSw);go_simp;(try with_reducible rfl))
 try simp only [pu]
 refine tw (i:=7) rfl (yieldsIf_load_row (by rfl) 39 _ (by rfl) w.heap.size (by rfl) 39 vh (0,0) _ (fun w h => (But.same h _ (by have:=(Array.getElem?_eq_some_iff.1 RHZ.out).1;exact this) (fun q => q)).trans RHZ.out) Tryz.underlying39 rfl Ivh.out) ?_
 try simp only [pu]
 refine wpAnyH_ready (rs:=[6]) (by kernel_rfl) (by simp) ?_
 refine AllReadyH.cons (i:=6) rfl (fun K2 hK2 => ?_) AllReadyH.nil
 go_simp
 go_at_call 45
 refine (HMT.out wz.drew (HBZ.out.trans (But.to_below ((But.refl (fun _ => False) wz).drew) HBZ.out.size (fun _ _ q => q)))).mono ?_
 rintro ev w702 ⟨rfl,bw702⟩
 try go_wp2_with fail
 obtain ⟨Kw702,fw702⟩:=st_call ((But.refl (fun _ => False) wz).drew) bw702
 have Kw702:=hid Kw702
 clear bw702 fw702
 refine hK2.out _ _ Kw702.out (fun hHeld2 => ?_)
 clear hK2 K2
 try simp only [pu]
 refine tk (i:=8) (v:=?v16) rfl ?y16 ?r16
 case y16 => (intro w hSw;(try dsimp only at hSw);go_simp;(try with_reducible rfl))
 try simp only [pu]
 refine wpAnyH_done (by kernel_rfl) ?_ _
 obtain ⟨wq,hnwq⟩:∃ x,w702 = x:=⟨_,rfl⟩
 have Bwq:Hid (Below wz.heap.size wz wq):=hid (by rw [← hnwq];exact But.to_below Kw702.out (Nat.le_refl _) (fun _ _ q => q))
 rw [hnwq]
 clear hnwq hHeld hHeld2
 have HBQ:Hid (Below w.heap.size w wq):=hid (HBZ.out.trans (Bwq.out.mono HBZ.out.size))
 have RHQ:Hid (wq.heap[w.heap.size]? = some (.cells vh 39 (0,0))):=hid ((Bwq.out.block _ (Array.getElem?_eq_some_iff.1 RHZ.out).1).trans RHZ.out)
 go_wp2_with fail
 refine (HPA.out wq).mono ?_
 rintro ev w5 ⟨sv,rfl,hown,b5⟩
 have HRD:=hid (rd_own hown)
 obtain ⟨Asv,csv,rfl,_⟩:=own_shape hown
 have B5:=hid b5
 have HB5:Hid (Below w.heap.size w w5):=hid (HBQ.out.trans (b5.mono HBQ.out.size))
 have RH5:Hid (w5.heap[w.heap.size]? = some (.cells vh 39 (0,0))):=hid ((b5.block _ (Array.getElem?_eq_some_iff.1 RHQ.out).1).trans RHQ.out)
 clear hown b5
 obtain ⟨vn,evn,HVN,Zvn,Ivn,Ovn⟩:=fault_of 0
 go_upto_region 7 with (refine wpList_store_row_any rfl 52 _ _ rfl w5.heap.size vn rfl (by rw [HVN.out];rfl) 52 _ (heap_at _ _ _ rfl) Ivn.out (by rw [Zvn.out];rfl) Ovn.out ?_;intro w6 hbN hgN hsN;have B56:Hid (Below w5.heap.size w5 w6):=hid (((Below.refl _ w5).alloc (Nat.le_refl _) _).trans (hbN.to_below (by simp) (fun k hk q => by omega)));clear hbN hgN hsN)
 have RH6:Hid (w6.heap[w.heap.size]? = some (.cells vh 39 (0,0))):=hid ((B56.out.block _ (Array.getElem?_eq_some_iff.1 RH5.out).1).trans RH5.out)
 obtain ⟨ga,hga⟩:∃ z,gv (.slice Asv l.length csv) = z:=⟨_,rfl⟩
 have HBA:Hid (∀ w,(Instr.build 81 #[(0,.pointer (some ⟨b2,0,none⟩)),(1,.slice Asv l.length csv),(2,.slice A m c),(5,.int .u64 old),(6,.agg vh)]).run Tryz.prog w = .ok (.agg ga) w):=hid (fun w => by rw [← hga];exact HBG.out Asv l.length csv w)
 have HGA:Hid (∀ j:Nat,ga[j]? = (givR (.pointer (some ⟨b2,0,none⟩)) (.slice Asv l.length csv) (.slice A m c) (.int .u64 old) (bytesV b0))[j]?):=hid (fun j => by rw [← hga];exact HGVR.out _ j)
 clear hga
 obtain ⟨wb,hwb⟩:∃ z,w6.alloc (.cells ga 81) = z:=⟨_,rfl⟩
 have RGb:Hid (wb.heap[w6.heap.size]? = some (.cells ga 81 (0,0))):=hid (by rw [← hwb];exact heap_at _ _ _ rfl)
 have B6B:Hid (Below w6.heap.size w6 wb):=hid (by rw [← hwb];exact (Below.refl _ _).alloc (Nat.le_refl _) _)
 have B5B:Hid (Below w5.heap.size w5 wb):=hid (B56.out.trans (B6B.out.mono B56.out.size))
 have HBB:Hid (Below w.heap.size w wb):=hid (HB5.out.trans (B5B.out.mono HB5.out.size))
 have cG:∀ (j:Nat) (u:Value),(givR (.pointer (some ⟨b2,0,none⟩)) (.slice Asv l.length csv) (.slice A m c) (.int .u64 old) (bytesV b0))[j]? = some u → wb.cell? ⟨w6.heap.size,j,none⟩ = some u:=fun j u hu => by
  rw [cell_of_row wb w6.heap.size j _ 81 (0,0) RGb.out,HGA.out j];exact hu
 have HSI:SIn wb none 0 0 []:=⟨rfl,Nat.le_refl _,by omega,fun s hs => (by simp at hs),by omega,.inl rfl⟩
 have HGV:Hid (Giv base b2 w6.heap.size (.slice (some ⟨gL,0,none⟩) L.length capL) L l Asv csv P A m c 0 none 0 0 [] old b0 sd wb):=hid {
  rl:=HR.out.below HBB.out
  gl:=(Array.getElem?_eq_some_iff.1 RGb.out).1
  c0:=cG 0 _ rfl
  c1:=by have:=cG 1 _ rfl;rw [HLB.out.1] at this;exact this
  c2:=cG 2 _ rfl
  c3:=cG 3 _ rfl
  c4:=cG 4 _ rfl
  c5:=cG 5 _ rfl
  bf:=fun j u hu => cG (6+j) u (givR_tail _ _ _ _ _ j u hu)
  sp:=by
   obtain ⟨_,A5,c5,e5,h5⟩:=HRD.out
   cases e5
   rcases h5 with h5 | ⟨g,q1,q2⟩
   ·left
    have:=HLB.out.1
    exact List.length_eq_zero_iff.1 (by omega)
   ·by_cases hl0:l = []
    ·exact .inl hl0
    ·right
     have hlt:g < w5.heap.size:=by
      obtain ⟨p,hp⟩:∃ p,l[0]? = some p:=⟨_,List.getElem?_eq_getElem (List.length_pos_iff.2 hl0)⟩
      exact block_of_cell (q2 _ _ (spanCells_at l 0 p hp).1)
     exact ⟨g,q1,Nat.lt_of_lt_of_le hlt B5B.out.size,fun j u hu => cell_below B5B.out (q2 j u hu) hlt⟩
  hp:=HP.out.below HBB.out
  da:=HSI
  ll:=HLB.out.1
  lm:=HLB.out.2.2.1
  lb:=HLB.out.2.1
  b32:=HLB.out.2.2.2.2.2
  ol:=HOL.out.2.2
  bl:=by omega
  small:=fun s hs => by simp at hs
  sdl:=HSD.out }
 have HPT:Hid (Calls Tryz.prog 33 #[.pointer (some ⟨w6.heap.size,0,none⟩),.agg #[.int .u64 0,.int .u64 sz]] wb fun ev w' => ev = .returned (PV out) ∧ Below wb.heap.size wb w'):=hid (by
  have:=parts20_any base b2 w6.heap.size (.slice (some ⟨gL,0,none⟩) L.length capL) L l Asv csv P A m c 0 none 0 0 [] old b0 sd 64 0 sz wb HGV.out (by omega) (by have:=HSZ.out;omega) (by have:=HSZ.out;omega) (by rw [pow2_64];have:=HSZ.out;omega) (by omega) (fun i hi => absurd hi (HLB.out.2.2.2.1 i))
  rw [show ((0:Nat):Int) = 0 from rfl,HLB.out.2.2.2.2.1] at this;exact this)
 have HWB:=hid hwb
 clear cG HSI hwb
 go_wp2_with (first
  | (refine wpList_load_row_g rfl 39 _ rfl w.heap.size rfl 39 vh (0,0) _ RH6.out Tryz.underlying39 rfl Ivh.out ?_)
  | (refine wpList_build_giv rfl _ _ _ _ _ rfl (.pointer (some ⟨b2,0,none⟩)) (.slice Asv l.length csv) (.slice A m c) (.int .u64 old) (.agg vh) rfl rfl rfl rfl rfl _ HBA.out ?_))
 rw [HWB.out]
 refine HPT.out.mono ?_
 rintro ev w9 ⟨rfl,b9⟩
 have HB9:Hid (Below w.heap.size w w9):=hid (HBB.out.trans (b9.mono HBB.out.size))
 clear b9
 cases out with
 | none =>
  simp only [PV]
  go_wp2
  go_ret3
  exact ⟨rfl,HB9.out⟩
 | some r =>
  simp only [PV]
  go_wp2
  go_ret3
  exact ⟨rfl,HB9.out⟩
/- The law ForgeConsistencies. Condition: the package-level variables read as listed. -/
section
variable {H:Type} {enc:TypeId × Value → H} {W:World} {base:Nat} {spare:Nat → Bool} {held:Bool}
theorem hash_arg {n:Nat} {r:Reach} {b0:Nat} {v:Value} {x:DataW H × List MemPlace} (o:Value.okWide Tryz.prog W r b0 39 v) (h:DataW.trod enc Tryz.prog W base spare held n 39 v.cells.toList = some x):∃ l:List UInt8,l.length = 32 ∧ v = hv l:=by
 simp only [Value.okWide,Tryz.underlying39] at o
 obtain ⟨cs,rfl,h2,_⟩:=o
 obtain ⟨l,hl,hc⟩:=hash_open Tryz.underlying39 Tryz.underlying5 (by kernel_rfl) (by kernel_rfl) h
 refine ⟨l,hl,?_⟩
 unfold hv
 simp only [Value.cells] at hc
 rw [← hc]
end
theorem beyond3 (x0 x1 x2:Nat) (w:World) (hx0:x0 ≤ 9000000000000000000) (hx1:x1 ≤ 9000000000000000000) (hx2:x2 ≤ 9000000000000000000) :
 Calls Tryz.prog 5 #[.slice (some ⟨w.heap.size,0,none⟩) 3 3] (w.alloc (.cells #[.int .i64 (x0:Nat),.int .i64 (x1:Nat),.int .i64 (x2:Nat)] 3)) fun ev w' => ev = .returned (.bool (decide (1048576 < x0+x1+x2))) ∧ w' = (w.alloc (.cells #[.int .i64 (x0:Nat),.int .i64 (x1:Nat),.int .i64 (x2:Nat)] 3)):=by
 have:=beyond_any [x0,x1,x2] w.heap.size 3 3 (w.alloc (.cells #[.int .i64 (x0:Nat),.int .i64 (x1:Nat),.int .i64 (x2:Nat)] 3)) rfl (by simp;omega) (fun j x hj => by
  refine cell_new _ _ _ _ ?_
  match j,hj with
  | 0,hj => simp at hj;subst hj;rfl
  | 1,hj => simp at hj;subst hj;rfl
  | 2,hj => simp at hj;subst hj;rfl
  | j+3,hj => simp at hj) (by omega)
 have hs:[x0,x1,x2].sum = x0+x1+x2:=by simp <;> omega
 rw [hs] at this
 exact this.mono (fun _ _ h => ⟨h.1,h.2.symm⟩)
theorem fcs_great (a:Nat → Addr) (B:Nat) (D:List ByteArray) (b0:List UInt8) (P:List (List UInt8)) (A:Option Addr) (n c X Z:Nat) (G:Option Addr) (m g:Nat) (w:World) (hE:Env B a w) (h:SIn w A n c D) (hX:X < 18446744073709551616) (hZ:Z < 18446744073709551616) (hb:b0.length = 32) (hp:HIn w G m g P) (hm:m ≤ 9000000000000000000) (hg:1048576 < n+bulk D+m) :
 Calls Tryz.prog 4 #[.slice A n c,.int .u64 X,.int .u64 Z,hv b0,.slice G m g] w fun ev w' => ev = .returned (.bool true) ∧ Below w.heap.size w w':=by
 have HE:=hid hE
 have HD:=hid h
 have HP:=hid hp
 have hn9:n ≤ 140737488355328:=h.2.2.2.2.1
 have HG:=hid hg
 obtain ⟨vh,evh,Hvh,Zvh,Ivh,Ovh⟩:=row_of b0 hb
 have EVH:=hid evh
 rw [evh]
 have R8:Hid ((w.alloc (.cells vh 39)).heap[w.heap.size]? = some (.cells vh 39 (0,0))):=hid (heap_at _ _ _ rfl)
 have HB0:Hid (Below w.heap.size w (w.alloc (.cells vh 39))):=hid ((Below.refl _ _).alloc (Nat.le_refl _) _)
 have HS0:Hid (w.heap.size < (w.alloc (.cells vh 39)).heap.size):=hid (by simp)
 obtain ⟨wv,hwv⟩:∃ x,w.alloc (.cells vh 39) = x:=⟨_,rfl⟩
 rw [hwv] at R8 HB0 HS0
 have HWV:=hid hwv
 clear hwv
 clear hE h hg hp evh hb
 go_enter Tryz.func4,Tryz.ntmps4
 go_upto_region 1 with fail
 rw [HWV.out]
 go_wp2_with fail
 refine (texts_any D A n c wv (HD.out.below HB0.out)).mono ?_
 rintro ev w' ⟨t,rfl,ht9,ht,rfl⟩
 have HT0:=hid ht
 clear ht
 go_wp2_with fail
 refine (beyond3 n t m wv (by omega) ht9 hm).mono ?_
 rintro ev w1 ⟨rfl,hw1⟩
 have b1:Below w.heap.size w w1:=by rw [hw1];exact HB0.out.alloc HB0.out.size _
 have R81:Hid (w1.heap[w.heap.size]? = some (.cells vh 39 (0,0))):=hid (by rw [hw1];exact (((Below.refl _ wv).alloc (Nat.le_refl _) _).block _ HS0.out).trans R8.out)
 clear hw1
 have hgd:decide (1048576 < n+t+m) = true:=by have:=HT0.out;have:=HG.out;simp;omega
 rw [hgd]
 go_wp2
 go_ret
 exact ⟨rfl,b1⟩
theorem fcs_gen0 (a:Nat → Addr) (B:Nat) (D:List ByteArray) (b0:List UInt8) (P:List (List UInt8)) (A:Option Addr) (n c X Z:Nat) (G:Option Addr) (m g:Nat) (w:World) (hE:Env B a w) (h:SIn w A n c D) (hX:X < 18446744073709551616) (hZ:Z < 18446744073709551616) (hb:b0.length = 32) (hp:HIn w G m g P) (hm:m ≤ 9000000000000000000) (hg:n+bulk D+m ≤ 1048576) (s u:ByteArray)
 (hF:∀ (base b:Nat) (v:Value) (A':Option Addr) (c':Nat) (w':World),Env B a w' → LogAt base b v (keptL D) w' → HIn w' A' m c' P → Calls Tryz.prog 13 #[.pointer (some ⟨b,0,none⟩),.int .u64 X,.int .u64 Z,hv b0,.slice A' m c'] w' fun ev w2 => ev = .returned (.tuple #[.string s,.string u,.bool false]) ∧ Below w'.heap.size w' w2)
 (hR:∀ (base b2:Nat) (v2:Value) (w':World),RLogAt base b2 v2 (keptL D) w' → HIn w' G m g P → Calls Tryz.prog 14 #[.pointer (some ⟨b2,0,none⟩),.int .u64 X,.int .u64 Z,hv b0,.slice G m g] w' fun ev w2 => ev = .returned (.tuple #[.string s,.string u,.bool false]) ∧ Below w'.heap.size w' w2) :
 Calls Tryz.prog 4 #[.slice A n c,.int .u64 X,.int .u64 Z,hv b0,.slice G m g] w fun ev w' => ev = .returned (.bool true) ∧ Below w.heap.size w w':=by
 have HF:=hid hF
 have hp2:P.length = m:=hp.2.1
 have HRR:=hid hR
 clear hF hR
 have HE:=hid hE
 have HD:=hid h
 have HP:=hid hp
 have hn9:n ≤ 140737488355328:=h.2.2.2.2.1
 have HG:=hid hg
 obtain ⟨vh,evh,Hvh,Zvh,Ivh,Ovh⟩:=row_of b0 hb
 have EVH:=hid evh
 rw [evh]
 have R8:Hid ((w.alloc (.cells vh 39)).heap[w.heap.size]? = some (.cells vh 39 (0,0))):=hid (heap_at _ _ _ rfl)
 have HB0:Hid (Below w.heap.size w (w.alloc (.cells vh 39))):=hid ((Below.refl _ _).alloc (Nat.le_refl _) _)
 have HS0:Hid (w.heap.size < (w.alloc (.cells vh 39)).heap.size):=hid (by simp)
 obtain ⟨wv,hwv⟩:∃ x,w.alloc (.cells vh 39) = x:=⟨_,rfl⟩
 rw [hwv] at R8 HB0 HS0
 have HWV:=hid hwv
 clear hwv
 clear hE h hg hp evh hb
 go_enter Tryz.func4,Tryz.ntmps4
 go_upto_region 1 with fail
 rw [HWV.out]
 go_wp2_with fail
 refine (texts_any D A n c wv (HD.out.below HB0.out)).mono ?_
 rintro ev w' ⟨t,rfl,ht9,ht,rfl⟩
 have HT0:=hid ht
 clear ht
 go_wp2_with fail
 refine (beyond3 n t m wv (by omega) ht9 hm).mono ?_
 rintro ev w1 ⟨rfl,hw1⟩
 have b1:Below w.heap.size w w1:=by rw [hw1];exact HB0.out.alloc HB0.out.size _
 have R81:Hid (w1.heap[w.heap.size]? = some (.cells vh 39 (0,0))):=hid (by rw [hw1];exact (((Below.refl _ wv).alloc (Nat.le_refl _) _).block _ HS0.out).trans R8.out)
 clear hw1
 rw [EVH.out] at HF HRR
 have hgd:decide (1048576 < n+t+m) = false:=by have:=HT0.out;have:=HG.out;simp;omega
 have hn10:n ≤ 1048576:=by have:=HG.out;omega
 have hdm:m ≤ 1048576:=by have:=HG.out;omega
 rw [hgd]
 go_wp2_with fail
 refine (logs20_both a B D A n c w1 (HE.out.step b1) (HD.out.below b1) hn10).mono ?_
 rintro ev w2 ⟨b,v,b2,v2,rfl,hL2,hR2,bb⟩
 have HL2:=hid hL2
 have HR2:=hid hR2
 have HB2:Hid (Below w.heap.size w w2):=hid (b1.trans (bb.mono b1.size))
 have R82:Hid (w2.heap[w.heap.size]? = some (.cells vh 39 (0,0))):=hid ((bb.block _ (Array.getElem?_eq_some_iff.1 R81.out).1).trans R81.out)
 have HE2:=hid (HE.out.step HB2.out)
 have HP2:=hid (HP.out.below HB2.out)
 have HCw2:Hid (Below w2.heap.size w2 w2):=hid (Below.refl _ _)
 have HLV:=hid (lives20_any a B)
 have HPL:=hid hp2
 clear hL2 hR2 b1 bb hp2
 obtain ⟨base,hbase⟩:∃ z,w1.heap.size = z:=⟨_,rfl⟩
 rw [hbase] at HL2 HR2
 clear hbase
 have he1:(s == s) = true:=(Go.MapKept.bytes_beq s s).2 rfl
 have he2:(u == u) = true:=(Go.MapKept.bytes_beq u u).2 rfl
 go_wp2_with fail
 refine (twin_any G m g P w2 HP2.out hdm).mono ?_
 rintro ev w3 ⟨rfl,hT,bb⟩
 have HTW:=hid hT
 have R83:Hid (w3.heap[w.heap.size]? = some (.cells vh 39 (0,0))):=hid ((bb.block _ (Array.getElem?_eq_some_iff.1 R82.out).1).trans R82.out)
 have HCw3:Hid (Below w2.heap.size w2 w3):=hid (HCw2.out.trans (bb.mono HCw2.out.size))
 have Sw3:Hid (Below w2.heap.size w2 w3):=hid bb
 clear bb
 clear hT
 go_wp2_with (refine wpList_load_row_g rfl 39 _ rfl w.heap.size rfl 39 vh (0,0) _ R83.out Tryz.underlying39 rfl Ivh.out ?_)
 refine (HF.out base b v (some ⟨w2.heap.size,0,none⟩) (m+1) w3 (HE2.out.step HCw3.out) (HL2.out.below HCw3.out) (HTW.out.hin HPL.out hdm)).mono ?_
 rintro ev w4 ⟨rfl,bb⟩
 have HTW4:=hid (HTW.out.below bb)
 have R84:Hid (w4.heap[w.heap.size]? = some (.cells vh 39 (0,0))):=hid ((bb.block _ (Array.getElem?_eq_some_iff.1 R83.out).1).trans R83.out)
 have HCw4:Hid (Below w2.heap.size w2 w4):=hid (HCw3.out.trans (bb.mono HCw3.out.size))
 have Sw4:Hid (Below w3.heap.size w3 w4):=hid bb
 clear bb
 go_wp2_with (refine wpList_load_row_g rfl 39 _ rfl w.heap.size rfl 39 vh (0,0) _ R84.out Tryz.underlying39 rfl Ivh.out ?_)
 refine (HRR.out base b2 v2 w4 (HR2.out.below HCw4.out) (HP2.out.below HCw4.out)).mono ?_
 rintro ev w5 ⟨rfl,bb⟩
 have HTW5:=hid (HTW4.out.below bb)
 have HCw5:Hid (Below w2.heap.size w2 w5):=hid (HCw4.out.trans (bb.mono HCw4.out.size))
 have Sw5:Hid (Below w4.heap.size w4 w5):=hid bb
 clear bb
 go_wp2_with fail
 refine (left_any w2.heap.size m g G P w5 HTW5.out (HP2.out.below HCw5.out) hdm).mono ?_
 rintro ev w6 ⟨rfl,bb⟩
 have HCw6:Hid (Below w2.heap.size w2 w6):=hid (HCw5.out.trans (bb.mono HCw5.out.size))
 have Sw6:Hid (Below w5.heap.size w5 w6):=hid bb
 clear bb
 go_wp2_with fail
 refine (HLV.out w6 (HE2.out.step HCw6.out)).mono ?_
 rintro ev w' ⟨rfl,bb⟩
 go_wp2
 go_ret
 exact ⟨rfl,HB2.out.trans ((HCw6.out.trans (bb.mono HCw6.out.size)).mono HB2.out.size)⟩
theorem fcs_gen1 (a:Nat → Addr) (B:Nat) (D:List ByteArray) (b0:List UInt8) (P:List (List UInt8)) (A:Option Addr) (n c X Z:Nat) (G:Option Addr) (m g:Nat) (w:World) (hE:Env B a w) (h:SIn w A n c D) (hX:X < 18446744073709551616) (hZ:Z < 18446744073709551616) (hb:b0.length = 32) (hp:HIn w G m g P) (hm:m ≤ 9000000000000000000) (hg:n+bulk D+m ≤ 1048576) (s u:ByteArray)
 (hF:∀ (base b:Nat) (v:Value) (A':Option Addr) (c':Nat) (w':World),Env B a w' → LogAt base b v (keptL D) w' → HIn w' A' m c' P → Calls Tryz.prog 13 #[.pointer (some ⟨b,0,none⟩),.int .u64 X,.int .u64 Z,hv b0,.slice A' m c'] w' fun ev w2 => ev = .returned (.tuple #[.string s,.string u,.bool true]) ∧ Below w'.heap.size w' w2)
 (hR:∀ (base b2:Nat) (v2:Value) (w':World),RLogAt base b2 v2 (keptL D) w' → HIn w' G m g P → Calls Tryz.prog 14 #[.pointer (some ⟨b2,0,none⟩),.int .u64 X,.int .u64 Z,hv b0,.slice G m g] w' fun ev w2 => ev = .returned (.tuple #[.string s,.string u,.bool true]) ∧ Below w'.heap.size w' w2) :
 Calls Tryz.prog 4 #[.slice A n c,.int .u64 X,.int .u64 Z,hv b0,.slice G m g] w fun ev w' => ev = .returned (.bool true) ∧ Below w.heap.size w w':=by
 have HF:=hid hF
 have hp2:P.length = m:=hp.2.1
 have HRR:=hid hR
 clear hF hR
 have HE:=hid hE
 have HD:=hid h
 have HP:=hid hp
 have hn9:n ≤ 140737488355328:=h.2.2.2.2.1
 have HG:=hid hg
 obtain ⟨vh,evh,Hvh,Zvh,Ivh,Ovh⟩:=row_of b0 hb
 have EVH:=hid evh
 rw [evh]
 have R8:Hid ((w.alloc (.cells vh 39)).heap[w.heap.size]? = some (.cells vh 39 (0,0))):=hid (heap_at _ _ _ rfl)
 have HB0:Hid (Below w.heap.size w (w.alloc (.cells vh 39))):=hid ((Below.refl _ _).alloc (Nat.le_refl _) _)
 have HS0:Hid (w.heap.size < (w.alloc (.cells vh 39)).heap.size):=hid (by simp)
 obtain ⟨wv,hwv⟩:∃ x,w.alloc (.cells vh 39) = x:=⟨_,rfl⟩
 rw [hwv] at R8 HB0 HS0
 have HWV:=hid hwv
 clear hwv
 clear hE h hg hp evh hb
 go_enter Tryz.func4,Tryz.ntmps4
 go_upto_region 1 with fail
 rw [HWV.out]
 go_wp2_with fail
 refine (texts_any D A n c wv (HD.out.below HB0.out)).mono ?_
 rintro ev w' ⟨t,rfl,ht9,ht,rfl⟩
 have HT0:=hid ht
 clear ht
 go_wp2_with fail
 refine (beyond3 n t m wv (by omega) ht9 hm).mono ?_
 rintro ev w1 ⟨rfl,hw1⟩
 have b1:Below w.heap.size w w1:=by rw [hw1];exact HB0.out.alloc HB0.out.size _
 have R81:Hid (w1.heap[w.heap.size]? = some (.cells vh 39 (0,0))):=hid (by rw [hw1];exact (((Below.refl _ wv).alloc (Nat.le_refl _) _).block _ HS0.out).trans R8.out)
 clear hw1
 rw [EVH.out] at HF HRR
 have hgd:decide (1048576 < n+t+m) = false:=by have:=HT0.out;have:=HG.out;simp;omega
 have hn10:n ≤ 1048576:=by have:=HG.out;omega
 have hdm:m ≤ 1048576:=by have:=HG.out;omega
 rw [hgd]
 go_wp2_with fail
 refine (logs20_both a B D A n c w1 (HE.out.step b1) (HD.out.below b1) hn10).mono ?_
 rintro ev w2 ⟨b,v,b2,v2,rfl,hL2,hR2,bb⟩
 have HL2:=hid hL2
 have HR2:=hid hR2
 have HB2:Hid (Below w.heap.size w w2):=hid (b1.trans (bb.mono b1.size))
 have R82:Hid (w2.heap[w.heap.size]? = some (.cells vh 39 (0,0))):=hid ((bb.block _ (Array.getElem?_eq_some_iff.1 R81.out).1).trans R81.out)
 have HE2:=hid (HE.out.step HB2.out)
 have HP2:=hid (HP.out.below HB2.out)
 have HCw2:Hid (Below w2.heap.size w2 w2):=hid (Below.refl _ _)
 have HLV:=hid (lives20_any a B)
 have HPL:=hid hp2
 clear hL2 hR2 b1 bb hp2
 obtain ⟨base,hbase⟩:∃ z,w1.heap.size = z:=⟨_,rfl⟩
 rw [hbase] at HL2 HR2
 clear hbase
 have he1:(s == s) = true:=(Go.MapKept.bytes_beq s s).2 rfl
 have he2:(u == u) = true:=(Go.MapKept.bytes_beq u u).2 rfl
 go_wp2_with fail
 refine (twin_any G m g P w2 HP2.out hdm).mono ?_
 rintro ev w3 ⟨rfl,hT,bb⟩
 have HTW:=hid hT
 have R83:Hid (w3.heap[w.heap.size]? = some (.cells vh 39 (0,0))):=hid ((bb.block _ (Array.getElem?_eq_some_iff.1 R82.out).1).trans R82.out)
 have HCw3:Hid (Below w2.heap.size w2 w3):=hid (HCw2.out.trans (bb.mono HCw2.out.size))
 have Sw3:Hid (Below w2.heap.size w2 w3):=hid bb
 clear bb
 clear hT
 go_wp2_with (refine wpList_load_row_g rfl 39 _ rfl w.heap.size rfl 39 vh (0,0) _ R83.out Tryz.underlying39 rfl Ivh.out ?_)
 refine (HF.out base b v (some ⟨w2.heap.size,0,none⟩) (m+1) w3 (HE2.out.step HCw3.out) (HL2.out.below HCw3.out) (HTW.out.hin HPL.out hdm)).mono ?_
 rintro ev w4 ⟨rfl,bb⟩
 have HTW4:=hid (HTW.out.below bb)
 have R84:Hid (w4.heap[w.heap.size]? = some (.cells vh 39 (0,0))):=hid ((bb.block _ (Array.getElem?_eq_some_iff.1 R83.out).1).trans R83.out)
 have HCw4:Hid (Below w2.heap.size w2 w4):=hid (HCw3.out.trans (bb.mono HCw3.out.size))
 have Sw4:Hid (Below w3.heap.size w3 w4):=hid bb
 clear bb
 go_wp2_with (refine wpList_load_row_g rfl 39 _ rfl w.heap.size rfl 39 vh (0,0) _ R84.out Tryz.underlying39 rfl Ivh.out ?_)
 refine (HRR.out base b2 v2 w4 (HR2.out.below HCw4.out) (HP2.out.below HCw4.out)).mono ?_
 rintro ev w5 ⟨rfl,bb⟩
 have HTW5:=hid (HTW4.out.below bb)
 have HCw5:Hid (Below w2.heap.size w2 w5):=hid (HCw4.out.trans (bb.mono HCw4.out.size))
 have Sw5:Hid (Below w4.heap.size w4 w5):=hid bb
 clear bb
 go_wp2_with fail
 refine (left_any w2.heap.size m g G P w5 HTW5.out (HP2.out.below HCw5.out) hdm).mono ?_
 rintro ev w6 ⟨rfl,bb⟩
 have HCw6:Hid (Below w2.heap.size w2 w6):=hid (HCw5.out.trans (bb.mono HCw5.out.size))
 have Sw6:Hid (Below w5.heap.size w5 w6):=hid bb
 clear bb
 go_wp2_with fail
 refine (HLV.out w6 (HE2.out.step HCw6.out)).mono ?_
 rintro ev w' ⟨rfl,bb⟩
 go_wp2
 go_ret
 exact ⟨rfl,HB2.out.trans ((HCw6.out.trans (bb.mono HCw6.out.size)).mono HB2.out.size)⟩
theorem ok_con {X Z:Nat} {L:List ByteArray} {b0:List UInt8} {P:List (List UInt8)} (hz:Z ≤ 9223372036854775808) (h32:H32 P) (hb:b0.length = 32):conK X Z b0 (treeB L 0 Z) P = 0 ↔ okC X Z L b0 P:=by
 unfold conK okC
 by_cases h0:(X:Int) = 0 ∨ (Z:Int) < X
 ·rw [if_pos h0]
  exact ⟨fun q => (by cases q),fun q => by omega⟩
 ·rw [if_neg h0]
  rcases Nat.lt_or_ge X Z with hlt | hge
  ·by_cases hl:P.length = (proofL 64 X 0 Z).length
   ·rw [if_neg (by simpa using hl)]
    have hs:=verC_sub (L:=L) (by omega) hlt hz h32 hb hl
    by_cases q:subP b0 64 X 0 Z P = (b0,treeB L 0 Z)
    ·rw [if_pos q]
     exact ⟨fun _ => ⟨by omega,by omega,fun e => by omega,fun _ => hs.2 q⟩,fun _ => rfl⟩
    ·rw [if_neg q]
     exact ⟨fun r => (by cases r),fun r => absurd (hs.1 (r.2.2.2 hlt)) q⟩
   ·rw [if_pos hl]
    exact ⟨fun r => (by cases r),fun r => absurd (r.2.2.2 hlt).1 hl⟩
  ·obtain rfl:X = Z:=by omega
   have e1:proofL 64 (X:Int) 0 X = []:=by rw [proofL_end,if_neg (by omega)]
   have e2:subP b0 64 (X:Int) 0 X P = (b0,b0):=by rw [subP_end,if_pos rfl]
   rw [e1,e2]
   by_cases hl:P = []
   ·subst hl
    rw [if_neg (by simp)]
    by_cases q:b0 = treeB L 0 X
    ·rw [if_pos (by rw [← q])]
     exact ⟨fun _ => ⟨by omega,by omega,fun _ => ⟨rfl,q⟩,fun e => by omega⟩,fun _ => rfl⟩
    ·rw [if_neg (fun e => q (congrArg Prod.snd e))]
     exact ⟨fun r => (by cases r),fun r => absurd (r.2.2.1 rfl).2 q⟩
   ·rw [if_pos (by simpa using hl)]
    exact ⟨fun r => (by cases r),fun r => absurd (r.2.2.1 rfl).1 hl⟩
theorem fcs_all (a:Nat → Addr) (B:Nat) (D:List ByteArray) (b0:List UInt8) (P:List (List UInt8)) (A:Option Addr) (n c X Z:Nat) (G:Option Addr) (m g:Nat) (w:World) (hE:Env B a w) (h:SIn w A n c D) (hX:X < 18446744073709551616) (hZ:Z < 18446744073709551616) (hb:b0.length = 32) (hp:HIn w G m g P) (hm:m ≤ 9000000000000000000) (hg:n+bulk D+m ≤ 1048576) :
 Calls Tryz.prog 4 #[.slice A n c,.int .u64 X,.int .u64 Z,hv b0,.slice G m g] w fun ev w' => ev = .returned (.bool true) ∧ Below w.heap.size w w':=by
 have hm9:m ≤ 1000000000:=by omega
 have hlen:=keptL_len D D.length
 rw [List.take_length] at hlen
 have hn:=h.1
 by_cases hz:Z ≤ (keptL D).length
 ·have hok:=ok_con (X:=X) (L:=keptL D) (Z:=Z) (by omega) hp.1 hb
  by_cases hv:okC X Z (keptL D) b0 P
  ·by_cases hsm:b0 = treeB (keptL D) 0 X
   ·exact fcs_gen0 a B D b0 P A n c X Z G m g w hE h hX hZ hb hp hm hg (strOf (soB (keptL D) Z)) (strOf (soB (keptL D) Z))
     (fun base b v A' c' w' e hl hi => (fcon_same a B base b v _ X Z b0 P A' m c' w' e hl hz hX hb hi hm9 hv hsm).mono (fun ev w2 ⟨⟨s,q1,q2⟩,q3⟩ => ⟨by rw [q1,← q2,strOf_bOf],q3⟩))
     (fun base b2 v2 w' hr hi => con20_same base b2 v2 _ X Z b0 P G m g w' hr hb hz hX hi hm9 (hok.2 hv) hsm)
   ·have hlt:X < Z:=by
     rcases Nat.lt_or_ge X Z with q | q
     ·exact q
     ·have e:X = Z:=by have:=hv.2.1;omega
      exact absurd (by rw [(hv.2.2.1 e).2,e]) hsm
    cases q:fWalk (saidL (mapC X Z b0 P)) (claimLeaf [] 0) (keptL D) (logText (keptL D)) (claimText [] 0) 64 0 Z with
    | none =>
     exact fcs_gen0 a B D b0 P A n c X Z G m g w hE h hX hZ hb hp hm hg ⟨#[]⟩ ⟨#[]⟩
      (fun base b v A' c' w' e hl hi => by
       have:=fcon_part a B base b v _ X Z b0 P A' m c' w' e hl hz hX hb hi hm9 hv hsm (claim_cons hl.1 hv.1 hlt hz (hv.2.2.2 hlt) hsm hp.1 hb).2
       rw [q] at this;exact this)
      (fun base b2 v2 w' hr hi => by
       have:=con20_part base b2 v2 _ X Z b0 P G m g w' hr hb hz hX hi hm9 (hok.2 hv) hsm hlt (claim_cons hr.1 hv.1 hlt hz (hv.2.2.2 hlt) hsm hp.1 hb).2
       rw [q] at this;exact this)
    | some r =>
     exact fcs_gen1 a B D b0 P A n c X Z G m g w hE h hX hZ hb hp hm hg (strOf r.1) (strOf r.2)
      (fun base b v A' c' w' e hl hi => by
       have:=fcon_part a B base b v _ X Z b0 P A' m c' w' e hl hz hX hb hi hm9 hv hsm (claim_cons hl.1 hv.1 hlt hz (hv.2.2.2 hlt) hsm hp.1 hb).2
       rw [q] at this
       exact this.mono (fun ev w2 ⟨⟨s,t,q1,q2,q3⟩,q4⟩ => ⟨by rw [q1,← q2,← q3,strOf_bOf,strOf_bOf],q4⟩))
      (fun base b2 v2 w' hr hi => by
       have:=con20_part base b2 v2 _ X Z b0 P G m g w' hr hb hz hX hi hm9 (hok.2 hv) hsm hlt (claim_cons hr.1 hv.1 hlt hz (hv.2.2.2 hlt) hsm hp.1 hb).2
       rw [q] at this;exact this)
  ·exact fcs_gen0 a B D b0 P A n c X Z G m g w hE h hX hZ hb hp hm hg ⟨#[]⟩ ⟨#[]⟩
    (fun base b v A' c' w' e hl hi => fcon_bad a B base b v _ X Z b0 P A' m c' w' e hl hz hX hb hi hm9 hv)
    (fun base b2 v2 w' hr hi => con20_bad base b2 v2 _ X Z b0 P G m g w' hr hb hz hX hi hm9 (fun e => hv (hok.1 e)))
 ·exact fcs_gen0 a B D b0 P A n c X Z G m g w hE h hX hZ hb hp hm hg ⟨#[]⟩ ⟨#[]⟩
   (fun base b v A' c' w' e hl hi => fcon_none (.pointer (some ⟨b,0,none⟩)) X Z b0 hb A' m c' w' (a 5) (fun w2 hb2 => lroot_over a B base b v _ Z w2 (e.step hb2) (hl.below hb2) (by omega) (by omega)))
   (fun base b2 v2 w' hr hi => con20_over base b2 v2 _ X Z b0 P G m g w' hr hb (by omega) (by omega))
end Go.Proofs.YtpdkpdpkggepcaaGreatDoor
