/- verify.Consistency where the proof says both roots. Condition: the package-level variables read as listed. -/
import Derived.Test.YtpdkpdpkggepcaaGreatDoorMem
import Derived.Test.YtpdkpdpkggepcaaGreatDoorVerifyIncl
import Derived.Test.YtpdkpdpkggepcaaGreatDoorConsPlain
import Derived.Test.YtpdkpdpkggepcaaGreatDoorPairAid
import Derived.Test.YtpdkpdpkggepcaaGreatDoorBatchLeaf
namespace Go.Proofs.YtpdkpdpkggepcaaGreatDoor
open Go.ChangeShapes Go.WideShapes Go.ChangeAt Go.RowKit
set_option maxRecDepth 100000
set_option maxHeartbeats 8000000
open Lib (hid)
set_option linter.unusedVariables false
theorem clr_zero (k:Nat):2 ^ k &&& (2 ^ k - 1) = 0:=by rw [Nat.and_two_pow_sub_one_eq_mod,Nat.mod_self]
theorem clr_pos {k n M:Nat} (hM:M = 2 ^ k * (n+1)) (he:n % 2 = 0) (hn:n ≠ 0):M &&& (M - 1) ≠ 0:=fun h => by
 have h1:(M &&& (M - 1)) >>> (k+1) = 0:=by rw [h,Nat.zero_shiftRight]
 have hP:=Nat.two_pow_pos k
 have e1:M / 2 ^ (k+1) = n / 2:=by
  rw [hM,Nat.pow_succ,← Nat.div_div_eq_div_mul,Nat.mul_div_cancel_left _ hP];omega
 have e2:(M - 1) / 2 ^ (k+1) = n / 2:=by
  have:(M - 1) / 2 ^ k = n:=by
   refine Nat.div_eq_of_lt_le ?_ ?_
   ·have:2 ^ k * (n+1) = n * 2 ^ k+2 ^ k:=by rw [Nat.mul_add,Nat.mul_one,Nat.mul_comm]
    omega
   ·have:(n+1) * 2 ^ k = n * 2 ^ k+2 ^ k:=by rw [Nat.add_mul];omega
    have:2 ^ k * (n+1) = n * 2 ^ k+2 ^ k:=by rw [Nat.mul_add,Nat.mul_one,Nat.mul_comm]
    omega
  rw [Nat.pow_succ,← Nat.div_div_eq_div_mul,this]
 rw [Nat.shiftRight_and_distrib,Nat.shiftRight_eq_div_pow,Nat.shiftRight_eq_div_pow,e1,e2,Nat.and_self] at h1
 omega
theorem ones_at {k n M j:Nat} (hM:M = 2 ^ k * (n+1)) (he:n % 2 = 0) (hj:j ≤ k):(j < k → (M - 1) / 2 ^ j % 2 = 1) ∧ (j = k → (M - 1) / 2 ^ j = n):=by
 have hP:=Nat.two_pow_pos j
 have hk:2 ^ k = 2 ^ j * 2 ^ (k - j):=by rw [← Nat.pow_add];congr 1;omega
 have hd:(M - 1) / 2 ^ j = 2 ^ (k - j) * (n+1) - 1:=by
  have hq:0 < 2 ^ (k - j) * (n+1):=Nat.mul_pos (Nat.two_pow_pos _) (by omega)
  obtain ⟨q,hq2⟩:∃ q,2 ^ (k - j) * (n+1) = q:=⟨_,rfl⟩
  rw [hM,hk,Nat.mul_assoc]
  rw [hq2] at hq ⊢
  refine Nat.div_eq_of_lt_le ?_ ?_
  ·rw [Nat.mul_comm,Nat.mul_sub];have:=Nat.le_mul_of_pos_right (2 ^ j) hq;omega
  ·rw [show q - 1+1 = q by omega,Nat.mul_comm q];have:=Nat.mul_pos hP hq;omega
 refine ⟨fun h => ?_,fun h => ?_⟩
 ·rw [hd,show k - j = (k - j - 1)+1 by omega,Nat.pow_succ]
  have:0 < 2 ^ (k - j - 1) * (n+1):=Nat.mul_pos (Nat.two_pow_pos _) (by omega)
  have e:2 ^ (k - j - 1) * 2 * (n+1) = 2 * (2 ^ (k - j - 1) * (n+1)):=by rw [Nat.mul_comm _ 2,Nat.mul_assoc]
  rw [e];omega
 ·rw [hd,h,Nat.sub_self,Nat.pow_zero];omega
theorem wpList_build_pair {ops:Array Oper} {rest:List Oper} {o:Oper} {a:Act} {w:World} {Q:Exit → Act → World → Prop} (hw:Region.wanted o (yielded ops a.tmps) = true) (x y:Operand) (ho:o.op = .build 132 #[(0,x),(1,y)]) (va vb:Array Value) (hx:a.eval x = .agg va) (hy:a.eval y = .agg vb) (za:va.size = 32) (zb:vb.size = 32)
 (h:wpList Tryz.prog ops Q rest (a.put o.dst (.agg (twoV va vb))) w):wpList Tryz.prog ops Q (o :: rest) a w :=
 wpList_step fun K hK => by
  rw [if_pos hw]
  unfold Oper.wp execOp
  simp only [ho,List.map_toArray,List.map_cons,List.map_nil,hx,hy,Sem.run_bind,Sem.run_pure,Result.andThen_ok,built_pair va vb za zb]
  exact hK _ _ h
section
variable {α:Type} (node:α → α → α)
theorem Says.up1 {n l n':Nat} {h g r:α} {ps qs:List α} (hb:∀ f,bot node (f+1) (n / 2) (l / 2+1) g qs = some r → bot node (f+1+1) n (l+1) h ps = some r) (hs:Says node (n / 2) (l / 2) g qs r):Says node n l h ps r:=by
 obtain ⟨f,hf,q⟩:=hs
 exact ⟨f+1,by rw [Nat.pow_succ];omega,hb f q⟩
theorem CSays.odd_iff {n l:Nat} {h0 h1 r0 r1 p:α} {ps:List α} (hl:0 < l) (ho:n % 2 = 1):CSays node n l h0 h1 (p :: ps) r0 r1 ↔ CSays node (n / 2) (l / 2) (node p h0) (node p h1) ps r0 r1:=by
 refine ⟨fun hs => hs.odd node hl ho,fun hs => Says.up1 (n':=n) _ (fun f q => ?_) hs⟩
 rw [List.map_cons,bot_odd _ (by omega) ho,show (l+1+1) / 2 = l / 2+1 by omega]
 exact q
theorem CSays.even_iff {n l:Nat} {h0 h1 r0 r1 p:α} {ps:List α} (hl:0 < l) (he:n % 2 = 0) (hn:n ≠ l):CSays node n l h0 h1 (p :: ps) r0 r1 ↔ CSays node (n / 2) (l / 2) h0 (node h1 p) ps r0 r1:=by
 refine ⟨fun hs => hs.even node hl he hn,fun hs => Says.up1 (n':=n) _ (fun f q => ?_) hs⟩
 rw [List.map_cons,bot_even _ (by omega) he (by omega),show (l+1+1) / 2 = l / 2+1 by omega]
 exact q
theorem CSays.up_iff {n:Nat} {h0 h1 r0 r1:α} {ps:List α}:∀ k,(∀ j,j < k → n / 2 ^ j % 2 = 0 ∧ n / 2 ^ j ≠ 0) → (CSays node n n h0 h1 ps r0 r1 ↔ CSays node (n / 2 ^ k) (n / 2 ^ k) h0 h1 ps r0 r1)
 | 0,_ => by simp
 | k+1,hk => by
  rw [CSays.up_iff k (fun j hj => hk j (by omega)),Nat.pow_succ,← Nat.div_div_eq_div_mul]
  have h1:=hk k (by omega)
  obtain ⟨y,hy⟩:∃ y,n / 2 ^ k = y:=⟨_,rfl⟩
  rw [hy] at h1 ⊢
  refine ⟨fun hs => Says.lone _ hs (Nat.pos_of_ne_zero h1.2) h1.1,fun hs => Says.up1 (n':=n) _ (fun f q => ?_) hs⟩
  rw [bot_last _ (by omega) ⟨h1.1,by omega⟩,show (y+1+1) / 2 = y / 2+1 by omega]
  exact q
theorem CSays.nil_iff {n l:Nat} {h0 h1 r0 r1:α} (hn:n ≤ l):CSays node n l h0 h1 [] r0 r1 ↔ l = 0 ∧ r0 = h0 ∧ r1 = h1:=by
 refine ⟨fun hs => hs.nil node hn,?_⟩
 rintro ⟨rfl,rfl,rfl⟩
 exact ⟨0,by simp,bot_one _ (by omega)⟩
end
def CLonePost (n:Nat) (w:World) (e:Ending) (w':World):Prop:=∃ z:Nat,e = .returned (.tuple #[.int .u64 z,.int .u64 z]) ∧ z % 2 = 1 ∧ z ≤ n ∧ (∀ h0 h1 ps r0 r1,CSays nodeH n n h0 h1 ps r0 r1 ↔ CSays nodeH z z h0 h1 ps r0 r1) ∧ w = w'
theorem cup_lone (n:Nat) (w:World) (hn:n < 18446744073709551616) (h0:0 < n):Calls Tryz.prog 79 #[.int .u64 n,.int .u64 n] w (CLonePost n w) :=
 (up_any n n w hn hn).mono (fun e w' ⟨k,he,ho,hj,hw⟩ => by
  refine ⟨n / 2 ^ k,he,?_,Nat.div_le_self _ _,fun h0 h1 ps r0 r1 => CSays.up_iff nodeH k hj,hw⟩
  rcases ho with q | q
  ·exact q
  ·exfalso
   cases k with
   | zero => simp at q;omega
   | succ k =>
    have h1:=hj k (by omega)
    have h2:n / 2 ^ (k+1) = n / 2 ^ k / 2:=by rw [Nat.div_div_eq_div_mul,← Nat.pow_succ]
    rw [h2] at q
    obtain ⟨y,hy⟩:∃ y,n / 2 ^ k = y:=⟨_,rfl⟩
    rw [hy] at h1 q
    omega)
theorem vcons_same (a:Nat → Addr) (B M N:Nat) (b0 b1:List UInt8) (A:Option Addr) (m c:Nat) (ps:List (List UInt8)) (w:World) (hE:Env B a w) (h0:b0.length = 32) (h1:b1.length = 32) (hp:HIn w A m c ps) (hMN:M = N) (hM0:0 < M) (hN:N ≤ 9223372036854775808) (hps:ps = []) (hb:b0 = b1) :
 Calls Tryz.prog 42 #[.int .u64 M,.int .u64 N,hv b0,hv b1,.slice A m c] w fun e w' => e = .returned .nilIface ∧ Below w.heap.size w w':=by
 obtain ⟨v0,ev0,Hv0,Zv0,Iv0,Ov0⟩:=row_of b0 h0
 obtain ⟨v1,ev1,Hv1,Zv1,Iv1,Ov1⟩:=row_of b1 h1
 obtain ⟨wv,hwv⟩:∃ x,(w.alloc (.cells v0 39)).alloc (.cells v1 39) = x:=⟨_,rfl⟩
 have HBv:Hid (Below w.heap.size w wv):=hid (by rw [← hwv];exact ((Below.refl _ _).alloc (Nat.le_refl _) _).alloc (by simp) _)
 have HSV:Hid (wv.heap.size = w.heap.size+1+1):=hid (by rw [← hwv];simp)
 have R7:Hid (wv.heap[w.heap.size]? = some (.cells v0 39 (0,0))):=hid (by rw [← hwv,((Below.refl _ _).alloc (Nat.le_refl _) _).block _ (by simp)];exact heap_at _ _ _ rfl)
 have R8:Hid (wv.heap[w.heap.size+1]? = some (.cells v1 39 (0,0))):=hid (by rw [← hwv];exact heap_at _ _ _ (by simp))
 have HWV:=hid hwv
 have HE:=hid hE
 subst hMN hb hps
 obtain rfl:m = 0:=by have:=hp.2.1;simpa using this.symm
 have hq:∀ w,(Op.equalIn 10000 39 (.agg v0) (.agg v1)).run Tryz.prog w = .ok true w:=fun w => by rw [eq_hash b0 b0 h0 h0 v0 v1 ev0 ev1 w];simp
 have t1:decide (9223372036854775808 < (M:Int)) = false:=by simp;omega
 have t2:((M:Int) == 0) = false:=by simp;omega
 have t3:decide ((M:Int) < M) = false:=by simp
 rw [ev1]
 rw [ev1] at ev0
 obtain rfl:v1 = v0:=by cases ev0;rfl
 clear ev0 ev1 hE hp hwv h0 h1 hM0 hN
 go_enter Tryz.func42,Tryz.ntmps42
 go_upto_region 1 with fail
 rw [HWV.out]
 go_wp2_with (first
  | (refine wpList_load_row_g rfl 39 _ rfl w.heap.size rfl 39 v1 (0,0) _ R7.out Tryz.underlying39 rfl Iv1.out ?_)
  | (refine wpList_load_row_g rfl 39 _ rfl (w.heap.size+1) rfl 39 v1 (0,0) _ R8.out Tryz.underlying39 rfl Iv1.out ?_))
 go_ret
 exact ⟨rfl,HBv.out⟩
theorem vcons_gen (a:Nat → Addr) (B M N:Nat) (b0 b1:List UInt8) (A:Option Addr) (m c:Nat) (ps:List (List UInt8)) (w:World) (hE:Env B a w) (h0:b0.length = 32) (h1:b1.length = 32) (hp:HIn w A m c ps) {k n:Nat} {h:List UInt8} {rest:List (List UInt8)} (hM:M = 2 ^ k * (n+1)) (he:n % 2 = 0) (hMN:M < N) (hN:N ≤ 9223372036854775808) (hps:ps = (if M = 2 ^ k then [] else [h]) ++ rest) (hh:M = 2 ^ k → h = b0) (lh:h.length = 32) (Q:Prop) (hs:CSays nodeH n ((N - 1) / 2 ^ k) h h rest b0 b1 ↔ Q) (hm9:m ≤ 1000000000) :
 Calls Tryz.prog 42 #[.int .u64 M,.int .u64 N,hv b0,hv b1,.slice A m c] w fun e w' => (Q ∧ e = .returned .nilIface ∨ ¬ Q ∧ e = .returned (errV a 10)) ∧ Below w.heap.size w w':=by
 obtain ⟨v0,ev0,Hv0,Zv0,Iv0,Ov0⟩:=row_of b0 h0
 obtain ⟨v1,ev1,Hv1,Zv1,Iv1,Ov1⟩:=row_of b1 h1
 obtain ⟨wv,hwv⟩:∃ x,(w.alloc (.cells v0 39)).alloc (.cells v1 39) = x:=⟨_,rfl⟩
 have HBv:Hid (Below w.heap.size w wv):=hid (by rw [← hwv];exact ((Below.refl _ _).alloc (Nat.le_refl _) _).alloc (by simp) _)
 have HSV:Hid (wv.heap.size = w.heap.size+1+1):=hid (by rw [← hwv];simp)
 have R7:Hid (wv.heap[w.heap.size]? = some (.cells v0 39 (0,0))):=hid (by rw [← hwv,((Below.refl _ _).alloc (Nat.le_refl _) _).block _ (by simp)];exact heap_at _ _ _ rfl)
 have R8:Hid (wv.heap[w.heap.size+1]? = some (.cells v1 39 (0,0))):=hid (by rw [← hwv];exact heap_at _ _ _ (by simp))
 have HWV:=hid hwv
 have HE:=hid hE
 have hM0:0 < M:=by rw [hM];exact Nat.mul_pos (Nat.two_pow_pos _) (by omega)
 obtain ⟨vh,evh,Hvh,Zvh,Ivh,Ovh⟩:=row_of h lh
 obtain ⟨lvh,hlvh⟩:∃ q,bytesV h = q:=⟨_,rfl⟩
 have Elvh:Hid (lvh.toArray = vh):=hid (by rw [← hlvh];exact Hvh.out)
 have Ilvh:Hid ((Tryz.prog.info? 39).map (·.size) = some lvh.length):=hid (by rw [← hlvh,bytesV_length,lh];kernel_rfl)
 have Llvh:Hid (vh.toList = lvh ∧ lvh.length = 32):=hid ⟨by rw [← Elvh.out],by rw [← hlvh,bytesV_length,lh]⟩
 have Blvh:=hid hlvh
 have EVvh:=hid evh
 clear hlvh evh
 have HMM:=hid (And.intro hM (And.intro he (And.intro hMN (And.intro hM0 hN))))
 have HPS:=hid (And.intro hps hh)
 have HP:=hid hp
 have HS:=hid hs
 have HM9:=hid hm9
 have HH:=hid (And.intro h0 (And.intro h1 lh))
 have E01:=hid (And.intro ev0 ev1)
 have t1:decide (9223372036854775808 < (N:Int)) = false:=by simp;omega
 have t2:((M:Int) == 0) = false:=by simp;omega
 have t3:decide ((N:Int) < M) = false:=by simp;omega
 have t4:((M:Int) == (N:Int)) = false:=by simp;omega
 have t5:decide (N < M) = false:=by simp;omega
 have t6:(M == N) = false:=by simp;omega
 have t7:(M:Int) ≠ N:=by omega
 have t8:IntKind.u64.wrap ((M:Int) - 1) = ((M - 1:Nat):Int):=by rw [IntWalk.u64_in _ (by omega)];omega
 have t9:IntKind.u64.wrap ((N:Int) - 1) = ((N - 1:Nat):Int):=by rw [IntWalk.u64_in _ (by omega)];omega
 have i1:(1:Int) ≤ M:=by omega
 have i2:(1:Int) ≤ N:=by omega
 rw [ev0,ev1]
 clear ev0 ev1 hE hp hwv h0 h1 hM0 hN hM he hMN hps hh lh hs hm9
 unfold errV
 go_enter Tryz.func42,Tryz.ntmps42
 go_upto_region 1 with fail
 rw [HWV.out]
 go_wp2_with fail
 go_loop [11,12] (fun a b => ∃ j x y:Nat,a = .int .u64 x ∧ b = .int .u64 y ∧ x < 18446744073709551616 ∧ y < 18446744073709551616 ∧ Hid (j ≤ k ∧ x = (M - 1) / 2 ^ j ∧ y = (N - 1) / 2 ^ j)) (fun a _ => (intOf a).toNat)
 case atStart => exact ⟨0,M - 1,N - 1,by go_num,by go_num,by have:=HMM.out;omega,by have:=HMM.out;omega,hid ⟨Nat.zero_le _,by simp,by simp⟩⟩
 case round =>
  obtain ⟨j,x,y,rfl,rfl,hx,hy,HX⟩:=hrel
  have ho:=ones_at HMM.out.1 HMM.out.2.1 HX.out.1
  have ha:=and_one x hx
  by_cases hjk:j < k
  ·have h1:(bits .and .u64 (x:Int) 1 == 1) = true:=by rw [ha,HX.out.2.1,ho.1 hjk];rfl
   have HJ:=hid (And.intro hjk (show x % 2 = 1 by rw [HX.out.2.1];exact ho.1 hjk))
   clear ha ho hjk
   go_wp2
   go_round
   case rel => exact ⟨j+1,x / 2,y / 2,by go_num,by go_num,by omega,by omega,hid ⟨HJ.out.1,by rw [HX.out.2.1,Nat.div_div_eq_div_mul,← Nat.pow_succ],by rw [HX.out.2.2,Nat.div_div_eq_div_mul,← Nat.pow_succ]⟩⟩
   case measure => simp [intOf];have:=HJ.out.2;omega
  ·have hjk2:j = k:=by have:=HX.out.1;omega
   have hxn:x = n:=by rw [HX.out.2.1];exact ho.2 hjk2
   have h1:(bits .and .u64 (x:Int) 1 == 1) = false:=by rw [ha,hxn];have:=HMM.out.2.1;simp;omega
   have HXN:Hid (x = n ∧ y = (N - 1) / 2 ^ k):=hid ⟨hxn,by rw [HX.out.2.2,hjk2]⟩
   clear ha ho hjk hjk2 hxn
   go_upto_region 12 with (first
    | (refine wpList_load_row rfl 39 _ rfl w.heap.size rfl 39 v0 (0,0) _ R7.out Tryz.underlying39 rfl Iv0.out ?_)
    | (refine wpList_store_row_any rfl 39 _ _ rfl wv.heap.size v0 rfl rfl 39 _ (heap_at _ _ _ rfl) Iv0.out (by rw [Zv0.out];rfl) Ov0.out ?_;intro w1 hbN hgN hsN;have BW1:Hid (Below wv.heap.size wv w1):=hid (((Below.refl _ wv).alloc (Nat.le_refl _) _).trans (hbN.to_below (by simp) (fun k hk q => by omega)));have R13:=hid hgN;clear hbN hgN hsN))
   try simp only [Act.put]
   go_upto_if 57 with fail
   go_cut [4] (fun s4 w' => ∃ (A':Option Addr) (m' c':Nat),s4 = .slice A' m' c' ∧ m' ≤ 1000000000 ∧ Hid (HIn w' A' m' c' rest) ∧ Hid (w'.heap[wv.heap.size]? = some (.cells vh 39 (0,0))) ∧ Hid (Below wv.heap.size wv w'))
   case first =>
    by_cases hp2:M = 2 ^ k
    ·have hz:(bits .and .u64 (M:Int) ((M - 1:Nat):Int) != 0) = false:=by
      rw [and_u64 M (M - 1) (by have:=HMM.out;omega) (by have:=HMM.out;omega),hp2,clr_zero];rfl
     have HP2:=hid hp2
     clear hp2
     go_wp2_with fail
     go_meet
     refine ⟨A,m,c,rfl,HM9.out,hid ?_,hid ?_,BW1⟩
     ·have:=HPS.out.1
      rw [if_pos HP2.out,List.nil_append] at this
      rw [← this]
      exact (HP.out.below HBv.out).below BW1.out
     ·have:h = b0:=HPS.out.2 HP2.out
      have e:vh = v0:=by have e1:=EVvh.out;rw [this,E01.out.1] at e1;cases e1;rfl
      rw [e];exact R13.out
    ·have hn0:n ≠ 0:=fun e => hp2 (by rw [HMM.out.1,e];omega)
     have hz:(bits .and .u64 (M:Int) ((M - 1:Nat):Int) != 0) = true:=by
      rw [and_u64 M (M - 1) (by have:=HMM.out;omega) (by have:=HMM.out;omega)]
      have:=clr_pos HMM.out.1 HMM.out.2.1 hn0
      simp;exact this
     have hpe:ps = h :: rest:=by have:=HPS.out.1;rwa [if_neg hp2] at this
     have hm1:m = rest.length+1:=by have:=HP.out.2.1;rw [hpe] at this;simpa using this.symm
     obtain ⟨g,o,rfl,hr⟩:=HP.out.2.2.2.2.resolve_left (by rw [hpe];simp)
     have KH:Hid (∀ w',Below wv.heap.size wv w' → w'.rangeAt g o lvh):=hid (fun w' h => by
      rw [hpe] at hr
      rw [← Blvh.out]
      exact rangeAt_below (HBv.out.trans (h.mono HBv.out.size)) (hashCells_head hr) (rangeAt_lt hr (hashCells_ne (by rw [← hpe];exact HP.out.1) (by simp))))
     have hrest:∀ (w':World) (A':Option Addr) (c':Nat),Below w.heap.size w w' → rest.length ≤ c' → c' ≤ 9223372036854775807 → (rest = [] ∨ A' = some ⟨g,o+32,none⟩) → HIn w' A' rest.length c' rest:=fun w' A' c' hb h1 h2 h3 => by
      refine ⟨fun z hz => HP.out.1 z (by rw [hpe];simp [hz]),rfl,h1,h2,?_⟩
      rcases h3 with h3 | h3
      ·exact .inl h3
      ·by_cases e:rest = []
       ·exact .inl e
       ·refine .inr ⟨g,o+32,h3,?_⟩
        rw [hpe] at hr
        have h32:=HH.out.2.2
        exact rangeAt_below hb (hashCells_tail h32 hr) (rangeAt_lt hr (hashCells_ne (by rw [← hpe];exact HP.out.1) (by simp)))
     have HREST:=hid hrest
     have hcm:=HP.out.2.2.1
     have hcm2:=HP.out.2.2.2.1
     have hmi:((m:Int) == 0) = false:=by rw [hm1];simp;omega
     have j0:(0:Int) < m:=by omega
     have j1:(1:Int) ≤ m:=by omega
     have j2:(m:Int) ≤ c:=by omega
     have j3:0 < m:=by omega
     have j4:1 ≤ m:=by omega
     have j5:m ≤ c:=by omega
     have HM1:=hid (And.intro hm1 (And.intro hcm hcm2))
     clear hpe hr hrest hn0 hp2 hm1 hcm hcm2
     rcases (by have:=HM1.out;omega:c = 1 ∨ 1 < c) with h1c | h1c
     ·go_upto_region 15 with fail
      refine wp_region_held_drew (S:=Below wv.heap.size wv) (by kernel_rfl) BW1.out.drew (fun hHeld => ?_)
      refine tk (i:=0) (v:=?v1) rfl ?y1 ?r1
      case y1 => (intro w hSw;(try dsimp only at hSw);go_simp;(try with_reducible rfl))
      try simp only [pu]
      refine tk (i:=1) (v:=?v2) rfl ?y2 ?r2
      case y2 => (intro w hSw;(try dsimp only at hSw);go_simp;(try with_reducible rfl))
      try simp only [pu]
      refine tw (i:=2) rfl (yieldsIf_load_mid (by rfl) 39 _ (by rfl) g o (by rfl) lvh _ (fun w h => KH.out w h) Tryz.underlying39 (by rfl) Ilvh.out) ?_
      try simp only [pu]
      refine tk (i:=3) (v:=?v4) rfl ?y4 ?r4
      case y4 => (intro w hSw;(try dsimp only at hSw);go_simp;(try with_reducible rfl))
      try simp only [pu]
      refine tk (i:=4) (v:=?v5) rfl ?y5 ?r5
      case y5 => (intro w hSw;(try dsimp only at hSw);go_simp;(try with_reducible rfl))
      try simp only [pu]
      refine wpAnyH_ready (rs:=[5]) (by kernel_rfl) (by simp) ?_
      refine AllReadyH.cons (i:=5) rfl (fun K2 hK2 => ?_) AllReadyH.nil
      rw [if_pos (by rfl)]
      rw [Elvh.out]
      refine wp_store_row 39 _ _ rfl wv.heap.size vh rfl rfl 39 _ R13.out Ivh.out (by rw [Zv0.out,Zvh.out]) Ovh.out ?_
      refine hK2.out _ _ (show Below wv.heap.size wv _ from below_setRow (show Below wv.heap.size wv w1.drew from BW1.out.drew) _ _ (by omega)) (fun hHeld2 => ?_)
      clear hK2 K2
      try simp only [pu]
      refine tk (i:=6) (v:=?v6) rfl ?y6 ?r6
      case y6 => (intro w hSw;(try dsimp only at hSw);go_simp;(try with_reducible rfl))
      try simp only [pu]
      refine wpAnyH_done (by kernel_rfl) ?_ _
      go_wp2_with fail
      go_meet
      refine ⟨_,_,_,rfl,by have:=HM9.out;omega,hid ?_,hid (setRow_heap _ _ _ _ _ _ R13.out),hid (below_setRow (show Below wv.heap.size wv w1.drew from BW1.out.drew) _ _ (Nat.le_refl _))⟩
      have e:m - 1 = rest.length:=by have:=HM1.out;omega
      rw [e]
      exact HREST.out _ _ _ (HBv.out.trans ((below_setRow (show Below wv.heap.size wv w1.drew from BW1.out.drew) _ _ (Nat.le_refl _)).mono HBv.out.size)) (by have:=HM1.out;omega) (by have:=HM1.out;omega) (.inl (List.length_eq_zero_iff.1 (by have:=HM1.out;omega)))
     ·go_upto_region 15 with fail
      refine wp_region_held_drew (S:=Below wv.heap.size wv) (by kernel_rfl) BW1.out.drew (fun hHeld => ?_)
      refine tk (i:=0) (v:=?v7) rfl ?y7 ?r7
      case y7 => (intro w hSw;(try dsimp only at hSw);go_simp;(try with_reducible rfl))
      try simp only [pu]
      refine tk (i:=1) (v:=?v8) rfl ?y8 ?r8
      case y8 => (intro w hSw;(try dsimp only at hSw);go_simp;(try with_reducible rfl))
      try simp only [pu]
      refine tw (i:=2) rfl (yieldsIf_load_mid (by rfl) 39 _ (by rfl) g o (by rfl) lvh _ (fun w h => KH.out w h) Tryz.underlying39 (by rfl) Ilvh.out) ?_
      try simp only [pu]
      refine tk (i:=3) (v:=?v10) rfl ?y10 ?r10
      case y10 => (intro w hSw;(try dsimp only at hSw);go_simp;(try with_reducible rfl))
      try simp only [pu]
      refine tk (i:=4) (v:=?v11) rfl ?y11 ?r11
      case y11 => (intro w hSw;(try dsimp only at hSw);go_simp;(try with_reducible rfl))
      try simp only [pu]
      refine wpAnyH_ready (rs:=[5]) (by kernel_rfl) (by simp) ?_
      refine AllReadyH.cons (i:=5) rfl (fun K2 hK2 => ?_) AllReadyH.nil
      rw [if_pos (by rfl)]
      rw [Elvh.out]
      refine wp_store_row 39 _ _ rfl wv.heap.size vh rfl rfl 39 _ R13.out Ivh.out (by rw [Zv0.out,Zvh.out]) Ovh.out ?_
      refine hK2.out _ _ (show Below wv.heap.size wv _ from below_setRow (show Below wv.heap.size wv w1.drew from BW1.out.drew) _ _ (by omega)) (fun hHeld2 => ?_)
      clear hK2 K2
      try simp only [pu]
      refine tk (i:=6) (v:=?v12) rfl ?y12 ?r12
      case y12 => (intro w hSw;(try dsimp only at hSw);go_simp;(try with_reducible rfl))
      try simp only [pu]
      refine wpAnyH_done (by kernel_rfl) ?_ _
      go_wp2_with fail
      go_meet
      refine ⟨_,_,_,rfl,by have:=HM9.out;omega,hid ?_,hid (setRow_heap _ _ _ _ _ _ R13.out),hid (below_setRow (show Below wv.heap.size wv w1.drew from BW1.out.drew) _ _ (Nat.le_refl _))⟩
      have e:m - 1 = rest.length:=by have:=HM1.out;omega
      rw [e]
      exact HREST.out _ _ _ (HBv.out.trans ((below_setRow (show Below wv.heap.size wv w1.drew from BW1.out.drew) _ _ (Nat.le_refl _)).mono HBv.out.size)) (by have:=HM1.out;omega) (by have:=HM1.out;omega) (.inr rfl)
   case rest =>
    obtain ⟨A',m',c',rfl,hm',HR',RH',BW'⟩:=hcut
    have HBC:Hid (Below w.heap.size w wc):=hid (HBv.out.trans (BW'.out.mono HBv.out.size))
    have HEC:Hid (Env B a wc):=hid (HE.out.step HBC.out)
    have hwc:wv.heap.size < wc.heap.size:=(Array.getElem?_eq_some_iff.1 RH'.out).1
    obtain ⟨vt,hvt⟩:∃ v,twoV vh vh = v:=⟨_,rfl⟩
    have HVT:Hid (vt.toList = lvh ++ lvh):=hid (by rw [← hvt];unfold twoV;rw [Llvh.out.1])
    have Zvt:Hid (vt.size = 64):=hid (by rw [← hvt];exact twoV_size Zvh.out Zvh.out)
    have Ivt:Hid ((Tryz.prog.info? 132).map (·.size) = some vt.size):=hid (by rw [Zvt.out];kernel_rfl)
    have Ovt:Hid (vt.all (·.oneCell') = true):=hid (by
     have h1:vt = (vt.toList).toArray:=by simp
     rw [h1,HVT.out,← Blvh.out]
     exact all_oneCell_toArray (fun v hv => by rcases List.mem_append.1 hv with q | q <;> exact bytesV_one _ v q))
    have hbd:∀ w,(Instr.build 132 #[(0,.agg vh),(1,.agg vh)]).run Tryz.prog w = .ok (.agg vt) w:=fun w => by rw [← hvt];exact built_pair vh vh Zvh.out Zvh.out w
    have LP:=hid (And.intro HR'.out.2.1 hm')
    have HTW:=hid hvt
    clear hvt hbd
    go_upto_region 17 with (first
     | (refine wpList_build_pair rfl _ _ rfl vh vh rfl rfl Zvh.out Zvh.out ?_;rw [HTW.out])
     | (refine wpList_load_row rfl 39 _ rfl wv.heap.size rfl 39 vh (0,0) _ RH'.out Tryz.underlying39 rfl Ivh.out ?_)
     | (refine wpList_store_row_any rfl 132 _ _ rfl wc.heap.size vt rfl rfl 132 _ (heap_at _ _ _ rfl) Ivt.out (by rw [Zvt.out];rfl) Ovt.out ?_;intro w2 hbN hgN hsN;have BW2:Hid (Below wc.heap.size wc w2):=hid (((Below.refl _ wc).alloc (Nat.le_refl _) _).trans (hbN.to_below (by simp) (fun k hk q => by omega)));have RT:=hid hgN;clear hbN hgN hsN))
    have hs2:wc.heap.size < w2.heap.size:=(Array.getElem?_eq_some_iff.1 RT.out).1
    have D0:Hid (w2.rangeAt wc.heap.size 0 lvh):=hid (fun j v hj => by
     rw [Nat.zero_add,cell_of_row w2 wc.heap.size j _ 132 (0,0) RT.out,← Array.getElem?_toList,HVT.out,List.getElem?_append_left (List.getElem?_eq_some_iff.1 hj).1];exact hj)
    have D1:Hid (w2.rangeAt wc.heap.size 32 lvh):=hid (fun j v hj => by
     rw [cell_of_row w2 wc.heap.size (32+j) _ 132 (0,0) RT.out,← Array.getElem?_toList,HVT.out,List.getElem?_append_right (by rw [Llvh.out.2];omega),Llvh.out.2,Nat.add_sub_cancel_left];exact hj)
    have DT:Hid (w2.there wc.heap.size 0 64):=hid (fun j hj => ⟨by rw [cell_of_row w2 wc.heap.size (0+j) _ 132 (0,0) RT.out,Array.getElem?_eq_getElem (by rw [Zvt.out];omega)];rfl,frozen_of_row w2 wc.heap.size (0+j) _ 132 RT.out⟩)
    try simp only [Act.put]
    go_wp2_with fail
    go_loopw [11,12,72] (fun n l i wr => ∃ (j x y:Nat) (c0 c1:List UInt8),j ≤ m' ∧ i = .int .i64 j ∧ n = .int .u64 x ∧ l = .int .u64 y ∧ x ≤ y ∧ y < 9223372036854775808 ∧ Hid (c0.length = 32 ∧ c1.length = 32 ∧ (CSays nodeH x y c0 c1 (rest.drop j) b0 b1 ↔ Q)) ∧ Hid (wr.rangeAt wc.heap.size 0 (bytesV c0)) ∧ Hid (wr.rangeAt wc.heap.size 32 (bytesV c1)) ∧ Hid (wr.there wc.heap.size 0 64) ∧ Hid (Below wc.heap.size wc wr) ∧ wc.heap.size+1 ≤ wr.heap.size) (fun _ _ i _ => m' - (intOf i).toNat)
    case atStart => exact ⟨0,x,y,h,h,Nat.zero_le _,rfl,rfl,rfl,by rw [HX.out.2.1,HX.out.2.2];exact Nat.div_le_div_right (by have:=HMM.out;omega),by have:y ≤ N - 1:=(by rw [HX.out.2.2];exact Nat.div_le_self _ _);have:=HMM.out;omega,hid ⟨HH.out.2.2,HH.out.2.2,by rw [HXN.out.1,HXN.out.2];exact HS.out⟩,hid (by rw [Blvh.out];exact D0.out),hid (by rw [Blvh.out];exact D1.out),DT,BW2,hs2⟩
    case round =>
     have HXO:=hid (And.intro hx hy)
     clear hx hy h1 HX HXN
     obtain ⟨j,x,y,c0,c1,hj,rfl,rfl,rfl,hxy,hy9,HC,HC0,HC1,HTH,HBW,hsr⟩:=hrel
     obtain ⟨vc0,evc0,Hvc0,Zvc0,Ivc0,Ovc0⟩:=row_of c0 HC.out.1
     obtain ⟨lvc0,hlvc0⟩:∃ q,bytesV c0 = q:=⟨_,rfl⟩
     have Elvc0:Hid (lvc0.toArray = vc0):=hid (by rw [← hlvc0];exact Hvc0.out)
     have Ilvc0:Hid ((Tryz.prog.info? 39).map (·.size) = some lvc0.length):=hid (by rw [← hlvc0,bytesV_length,HC.out.1];kernel_rfl)
     have Llvc0:Hid (vc0.toList = lvc0 ∧ lvc0.length = 32):=hid ⟨by rw [← Elvc0.out],by rw [← hlvc0,bytesV_length,HC.out.1]⟩
     have Blvc0:=hid hlvc0
     have EVvc0:=hid evc0
     clear hlvc0 evc0
     obtain ⟨vc1,evc1,Hvc1,Zvc1,Ivc1,Ovc1⟩:=row_of c1 HC.out.2.1
     obtain ⟨lvc1,hlvc1⟩:∃ q,bytesV c1 = q:=⟨_,rfl⟩
     have Elvc1:Hid (lvc1.toArray = vc1):=hid (by rw [← hlvc1];exact Hvc1.out)
     have Ilvc1:Hid ((Tryz.prog.info? 39).map (·.size) = some lvc1.length):=hid (by rw [← hlvc1,bytesV_length,HC.out.2.1];kernel_rfl)
     have Llvc1:Hid (vc1.toList = lvc1 ∧ lvc1.length = 32):=hid ⟨by rw [← Elvc1.out],by rw [← hlvc1,bytesV_length,HC.out.2.1]⟩
     have Blvc1:=hid hlvc1
     have EVvc1:=hid evc1
     clear hlvc1 evc1
     rw [Blvc0.out] at HC0
     rw [Blvc1.out] at HC1
     have HCL:=hid (And.intro HC.out.1 HC.out.2.1)
     by_cases hlt:j < m'
     ·obtain ⟨p,hp⟩:∃ p,rest[j]? = some p:=⟨_,List.getElem?_eq_getElem (by have:=LP.out;omega)⟩
      have HDR:Hid (rest.drop j = p :: rest.drop (j+1)):=hid (by
       have hkl:j < rest.length:=by have:=LP.out;omega
       rw [List.drop_eq_getElem_cons hkl];congr 1
       rw [List.getElem?_eq_getElem hkl] at hp;exact Option.some.inj hp)
      obtain ⟨g,o,rfl,gl,rp,pl⟩:=HR'.out.row hp
      have HPL:=hid pl
      obtain ⟨vp,evp,Hvp,Zvp,Ivp,Ovp⟩:=row_of p pl
      obtain ⟨lvp,hlvp⟩:∃ q,bytesV p = q:=⟨_,rfl⟩
      have Elvp:Hid (lvp.toArray = vp):=hid (by rw [← hlvp];exact Hvp.out)
      have Ilvp:Hid ((Tryz.prog.info? 39).map (·.size) = some lvp.length):=hid (by rw [← hlvp,bytesV_length,pl];kernel_rfl)
      have Llvp:Hid (vp.toList = lvp ∧ lvp.length = 32):=hid ⟨by rw [← Elvp.out],by rw [← hlvp,bytesV_length,pl]⟩
      have Blvp:=hid hlvp
      have EVvp:=hid evp
      clear hlvp evp
      have HR:Hid (wr.rangeAt g (o+j * 32) lvp):=hid (by rw [← Blvp.out];exact rangeAt_below HBW.out rp gl)
      have i0:(0:Int) ≤ j:=by omega
      have i1:(j:Int) < m':=by omega
      have SC:Hid (CSays nodeH x y c0 c1 (p :: rest.drop (j+1)) b0 b1 ↔ Q):=hid (by have:=HC.out.2.2;rwa [HDR.out] at this)
      by_cases hy0:y = 0
      ·have hyb:((y:Int) == 0) = true:=by simp;omega
       have HNQ:Hid (¬ Q):=hid (fun q => by
        have:=SC.out.2 q
        rw [hy0] at this
        have:=(this.end nodeH).1
        cases this)
       clear hp pl rp gl
       go_upto_region 20 with (first
        | (refine wpList_load_mid rfl 39 _ rfl g (o+j * 32) rfl lvp _ HR.out Tryz.underlying39 rfl Ilvp.out ?_;rw [Elvp.out])
        | (refine wpList_store_row_any rfl 39 _ _ rfl wr.heap.size vp rfl rfl 39 _ (heap_at _ _ _ rfl) Ivp.out (by rw [Zvp.out];rfl) Ovp.out ?_;intro w3 hbN hgN hsN;have b3:Below wr.heap.size wr w3:=((Below.refl _ wr).alloc (Nat.le_refl _) _).trans (hbN.to_below (by simp) (fun k hk q => by omega));have R16:=hid hgN;clear hbN hgN hsN))
       have HB3:Hid (Below wc.heap.size wc w3):=hid (HBW.out.trans (b3.mono (by omega)))
       have he10:=(HEC.out.step HB3.out).laid.e10
       have hg10:2 < w3.heap.size:=block_of_cell he10
       go_wp2_with fail
       go_ret
       exact ⟨.inr ⟨HNQ.out,rfl⟩,HBC.out.trans (HB3.out.mono HBC.out.size)⟩
      ·have hyb:((y:Int) == 0) = false:=by simp;omega
       have ha:=and_one x (by omega)
       have hx9:(x:Int) < 18446744073709551616:=by omega
       have hy9':(y:Int) < 18446744073709551616:=by omega
       clear hp pl rp gl
       by_cases ho:x % 2 = 1
       ·have t1:(bits .and .u64 (x:Int) 1 == 1) = true:=by rw [ha,ho];rfl
        have SN:Hid (CSays nodeH (x / 2) (y / 2) (nodeH p c0) (nodeH p c1) (rest.drop (j+1)) b0 b1 ↔ Q):=hid ((CSays.odd_iff nodeH (by omega) ho).symm.trans SC.out)
        have HUP:=hid (fun w => up_odd x y w (by omega) (by omega) ho)
        clear ha ho
        go_upto_region 23 with (first
         | (refine wpList_load_mid rfl 39 _ rfl g (o+j * 32) rfl lvp _ HR.out Tryz.underlying39 rfl Ilvp.out ?_;rw [Elvp.out])
         | (refine wpList_store_row_any rfl 39 _ _ rfl wr.heap.size vp rfl rfl 39 _ (heap_at _ _ _ rfl) Ivp.out (by rw [Zvp.out];rfl) Ovp.out ?_;intro w3 hbN hgN hsN;have b3:Below wr.heap.size wr w3:=((Below.refl _ wr).alloc (Nat.le_refl _) _).trans (hbN.to_below (by simp) (fun k hk q => by omega));have R16:=hid hgN;clear hbN hgN hsN))
        have HB3:Hid (Below wc.heap.size wc w3):=hid (HBW.out.trans (b3.mono (by omega)))
        have C0:Hid (w3.rangeAt wc.heap.size 0 lvc0):=hid (rangeAt_block (b3.block _ (by omega)) HC0.out)
        have C1:Hid (w3.rangeAt wc.heap.size 32 lvc1):=hid (rangeAt_block (b3.block _ (by omega)) HC1.out)
        have T3:Hid (w3.there wc.heap.size 0 64):=hid (there_block2 HTH.out (b3.block _ (by omega)))
        have hs3:wr.heap.size < w3.heap.size:=(Array.getElem?_eq_some_iff.1 R16.out).1
        obtain ⟨vn0,evn0,Hvn0,Zvn0,Ivn0,Ovn0⟩:=row_of (nodeH p c0) (nodeH_length _ _)
        obtain ⟨lvn0,hlvn0⟩:∃ q,bytesV (nodeH p c0) = q:=⟨_,rfl⟩
        have Elvn0:Hid (lvn0.toArray = vn0):=hid (by rw [← hlvn0];exact Hvn0.out)
        have Ilvn0:Hid ((Tryz.prog.info? 39).map (·.size) = some lvn0.length):=hid (by rw [← hlvn0,bytesV_length,(nodeH_length _ _)];kernel_rfl)
        have Llvn0:Hid (vn0.toList = lvn0 ∧ lvn0.length = 32):=hid ⟨by rw [← Elvn0.out],by rw [← hlvn0,bytesV_length,(nodeH_length _ _)]⟩
        have Blvn0:=hid hlvn0
        have EVvn0:=hid evn0
        clear hlvn0 evn0
        have HN0:Hid (∀ w,Env B a w → Calls Tryz.prog 58 #[.agg vp,.agg vc0] w fun ev w' => ev = .returned (.agg vn0) ∧ Below w.heap.size w w'):=hid (fun w h => by
         have:=hnode_any p c0 w HPL.out HCL.out.1 h.tab
         rw [EVvp.out,EVvc0.out,EVvn0.out] at this;exact this)
        obtain ⟨vn1,evn1,Hvn1,Zvn1,Ivn1,Ovn1⟩:=row_of (nodeH p c1) (nodeH_length _ _)
        obtain ⟨lvn1,hlvn1⟩:∃ q,bytesV (nodeH p c1) = q:=⟨_,rfl⟩
        have Elvn1:Hid (lvn1.toArray = vn1):=hid (by rw [← hlvn1];exact Hvn1.out)
        have Ilvn1:Hid ((Tryz.prog.info? 39).map (·.size) = some lvn1.length):=hid (by rw [← hlvn1,bytesV_length,(nodeH_length _ _)];kernel_rfl)
        have Llvn1:Hid (vn1.toList = lvn1 ∧ lvn1.length = 32):=hid ⟨by rw [← Elvn1.out],by rw [← hlvn1,bytesV_length,(nodeH_length _ _)]⟩
        have Blvn1:=hid hlvn1
        have EVvn1:=hid evn1
        clear hlvn1 evn1
        have HN1:Hid (∀ w,Env B a w → Calls Tryz.prog 58 #[.agg vp,.agg vc1] w fun ev w' => ev = .returned (.agg vn1) ∧ Below w.heap.size w w'):=hid (fun w h => by
         have:=hnode_any p c1 w HPL.out HCL.out.2 h.tab
         rw [EVvp.out,EVvc1.out,EVvn1.out] at this;exact this)
        go_wp2_with (first | (refine wpList_load_row rfl 39 _ rfl wr.heap.size rfl 39 vp (0,0) _ R16.out Tryz.underlying39 rfl Ivp.out ?_) | (refine wpList_load_mid rfl 39 _ rfl wc.heap.size 0 rfl lvc0 _ C0.out Tryz.underlying39 rfl Ilvc0.out ?_;rw [Elvc0.out]))
        refine (HN0.out w3 (HEC.out.step HB3.out)).mono ?_
        rintro ev w4 ⟨rfl,b4⟩
        have HB4:Hid (Below wc.heap.size wc w4):=hid (HB3.out.trans (b4.mono HB3.out.size))
        have R164:Hid (w4.heap[wr.heap.size]? = some (.cells vp 39 (0,0))):=hid ((b4.block _ hs3).trans R16.out)
        have C14:Hid (w4.rangeAt wc.heap.size 32 lvc1):=hid (rangeAt_block (b4.block _ (by omega)) C1.out)
        have TH5o:Hid (w4.there wc.heap.size 0 64):=hid (there_block2 T3.out (b4.block _ (by omega)))
        have hs4:wr.heap.size < w4.heap.size:=(Array.getElem?_eq_some_iff.1 R164.out).1
        clear b4
        go_upto_region 24 with (refine wpList_store_mid rfl 39 _ _ rfl wc.heap.size 0 vn0 rfl rfl (there_mid2 TH5o.out (by rw [Zvn0.out];omega)) Ivn0.out Ovn0.out ?_)
        obtain ⟨w5,hw5⟩:∃ z,w4.setCells wc.heap.size 0 vn0.toList = z:=⟨_,rfl⟩
        have B5:Hid (But (· = wc.heap.size) w4 w5):=hid (by rw [← hw5];exact (But.refl _ _).setCells (fun _ => rfl))
        have TH5:Hid (w5.there wc.heap.size 0 64):=hid (by rw [← hw5];exact World.there_setCells TH5o.out _ _ _)
        have N5:Hid (w5.rangeAt wc.heap.size 0 lvn0):=hid (by rw [← hw5,Llvn0.out.1];exact World.rangeAt_setCells_same _ _ _ _ (there_mid2 TH5o.out (by rw [Llvn0.out.2];omega)))
        have C15:Hid (w5.rangeAt wc.heap.size 32 lvc1):=hid (by rw [← hw5];exact World.rangeAt_setCells_apart C14.out _ _ _ (.inr (.inr (by rw [Llvn0.out.1,Llvn0.out.2];omega))))
        have R165:Hid (w5.heap[wr.heap.size]? = some (.cells vp 39 (0,0))):=hid ((B5.out.same _ hs4 (by omega)).trans R164.out)
        have HB5:Hid (Below wc.heap.size wc w5):=hid (HB4.out.trans (B5.out.to_below HB4.out.size (fun k hk q => by omega)))
        have hs5:wr.heap.size < w5.heap.size:=(Array.getElem?_eq_some_iff.1 R165.out).1
        rw [hw5]
        clear hw5
        go_wp2_with (first | (refine wpList_load_row rfl 39 _ rfl wr.heap.size rfl 39 vp (0,0) _ R165.out Tryz.underlying39 rfl Ivp.out ?_) | (refine wpList_load_mid rfl 39 _ rfl wc.heap.size 32 rfl lvc1 _ C15.out Tryz.underlying39 rfl Ilvc1.out ?_;rw [Elvc1.out]))
        refine (HN1.out w5 (HEC.out.step HB5.out)).mono ?_
        rintro ev w6 ⟨rfl,b6⟩
        have HB6:Hid (Below wc.heap.size wc w6):=hid (HB5.out.trans (b6.mono HB5.out.size))
        have N06:Hid (w6.rangeAt wc.heap.size 0 lvn0):=hid (rangeAt_block (b6.block _ (by omega)) N5.out)
        have TH7o:Hid (w6.there wc.heap.size 0 64):=hid (there_block2 TH5.out (b6.block _ (by omega)))
        have hs6:wr.heap.size < w6.heap.size:=by have:=b6.size;omega
        clear b6
        go_upto_region 25 with (refine wpList_store_mid rfl 39 _ _ rfl wc.heap.size 32 vn1 rfl rfl (there_mid2 TH7o.out (by rw [Zvn1.out];omega)) Ivn1.out Ovn1.out ?_)
        obtain ⟨w7,hw7⟩:∃ z,w6.setCells wc.heap.size 32 vn1.toList = z:=⟨_,rfl⟩
        have B7:Hid (But (· = wc.heap.size) w6 w7):=hid (by rw [← hw7];exact (But.refl _ _).setCells (fun _ => rfl))
        have TH7:Hid (w7.there wc.heap.size 0 64):=hid (by rw [← hw7];exact World.there_setCells TH7o.out _ _ _)
        have N7:Hid (w7.rangeAt wc.heap.size 32 lvn1):=hid (by rw [← hw7,Llvn1.out.1];exact World.rangeAt_setCells_same _ _ _ _ (there_mid2 TH7o.out (by rw [Llvn1.out.2];omega)))
        have N07:Hid (w7.rangeAt wc.heap.size 0 lvn0):=hid (by rw [← hw7];exact World.rangeAt_setCells_apart N06.out _ _ _ (.inr (.inl (by rw [Llvn0.out.2];omega))))
        have HB7:Hid (Below wc.heap.size wc w7):=hid (HB6.out.trans (B7.out.to_below HB6.out.size (fun k hk q => by omega)))
        have hs7:wr.heap.size < w7.heap.size:=by have:=B7.out.size;omega
        rw [hw7]
        clear hw7
        go_wp2_with fail
        refine (HUP.out w7).mono ?_
        rintro ev w8 ⟨rfl,rfl⟩
        go_wp2
        go_roundw
        case rel => exact ⟨j+1,x / 2,y / 2,nodeH p c0,nodeH p c1,by omega,by go_num,by go_num,by go_num,by omega,by omega,hid ⟨nodeH_length _ _,nodeH_length _ _,SN.out⟩,hid (by rw [Blvn0.out];exact N07.out),hid (by rw [Blvn1.out];exact N7.out),TH7,HB7,by omega⟩
        case measure => simp [intOf];omega
       ·have t1:(bits .and .u64 (x:Int) 1 == 1) = false:=by rw [ha];simp;omega
        have he:x % 2 = 0:=by omega
        by_cases hxe:x = y
        ·subst hxe
         have t2:((x:Int) == (x:Int)) = true:=by simp
         have HUP:=hid (fun w => cup_lone x w (by omega) (by omega))
         clear ha ho he
         go_upto_region 23 with (first
          | (refine wpList_load_mid rfl 39 _ rfl g (o+j * 32) rfl lvp _ HR.out Tryz.underlying39 rfl Ilvp.out ?_;rw [Elvp.out])
          | (refine wpList_store_row_any rfl 39 _ _ rfl wr.heap.size vp rfl rfl 39 _ (heap_at _ _ _ rfl) Ivp.out (by rw [Zvp.out];rfl) Ovp.out ?_;intro w3 hbN hgN hsN;have b3:Below wr.heap.size wr w3:=((Below.refl _ wr).alloc (Nat.le_refl _) _).trans (hbN.to_below (by simp) (fun k hk q => by omega));have R16:=hid hgN;clear hbN hgN hsN))
         have HB3:Hid (Below wc.heap.size wc w3):=hid (HBW.out.trans (b3.mono (by omega)))
         have C0:Hid (w3.rangeAt wc.heap.size 0 lvc0):=hid (rangeAt_block (b3.block _ (by omega)) HC0.out)
         have C1:Hid (w3.rangeAt wc.heap.size 32 lvc1):=hid (rangeAt_block (b3.block _ (by omega)) HC1.out)
         have T3:Hid (w3.there wc.heap.size 0 64):=hid (there_block2 HTH.out (b3.block _ (by omega)))
         have hs3:wr.heap.size < w3.heap.size:=(Array.getElem?_eq_some_iff.1 R16.out).1
         obtain ⟨vn0,evn0,Hvn0,Zvn0,Ivn0,Ovn0⟩:=row_of (nodeH p c0) (nodeH_length _ _)
         obtain ⟨lvn0,hlvn0⟩:∃ q,bytesV (nodeH p c0) = q:=⟨_,rfl⟩
         have Elvn0:Hid (lvn0.toArray = vn0):=hid (by rw [← hlvn0];exact Hvn0.out)
         have Ilvn0:Hid ((Tryz.prog.info? 39).map (·.size) = some lvn0.length):=hid (by rw [← hlvn0,bytesV_length,(nodeH_length _ _)];kernel_rfl)
         have Llvn0:Hid (vn0.toList = lvn0 ∧ lvn0.length = 32):=hid ⟨by rw [← Elvn0.out],by rw [← hlvn0,bytesV_length,(nodeH_length _ _)]⟩
         have Blvn0:=hid hlvn0
         have EVvn0:=hid evn0
         clear hlvn0 evn0
         have HN0:Hid (∀ w,Env B a w → Calls Tryz.prog 58 #[.agg vp,.agg vc0] w fun ev w' => ev = .returned (.agg vn0) ∧ Below w.heap.size w w'):=hid (fun w h => by
          have:=hnode_any p c0 w HPL.out HCL.out.1 h.tab
          rw [EVvp.out,EVvc0.out,EVvn0.out] at this;exact this)
         obtain ⟨vn1,evn1,Hvn1,Zvn1,Ivn1,Ovn1⟩:=row_of (nodeH p c1) (nodeH_length _ _)
         obtain ⟨lvn1,hlvn1⟩:∃ q,bytesV (nodeH p c1) = q:=⟨_,rfl⟩
         have Elvn1:Hid (lvn1.toArray = vn1):=hid (by rw [← hlvn1];exact Hvn1.out)
         have Ilvn1:Hid ((Tryz.prog.info? 39).map (·.size) = some lvn1.length):=hid (by rw [← hlvn1,bytesV_length,(nodeH_length _ _)];kernel_rfl)
         have Llvn1:Hid (vn1.toList = lvn1 ∧ lvn1.length = 32):=hid ⟨by rw [← Elvn1.out],by rw [← hlvn1,bytesV_length,(nodeH_length _ _)]⟩
         have Blvn1:=hid hlvn1
         have EVvn1:=hid evn1
         clear hlvn1 evn1
         have HN1:Hid (∀ w,Env B a w → Calls Tryz.prog 58 #[.agg vp,.agg vc1] w fun ev w' => ev = .returned (.agg vn1) ∧ Below w.heap.size w w'):=hid (fun w h => by
          have:=hnode_any p c1 w HPL.out HCL.out.2 h.tab
          rw [EVvp.out,EVvc1.out,EVvn1.out] at this;exact this)
         go_wp2_with (first | (refine wpList_load_row rfl 39 _ rfl wr.heap.size rfl 39 vp (0,0) _ R16.out Tryz.underlying39 rfl Ivp.out ?_) | (refine wpList_load_mid rfl 39 _ rfl wc.heap.size 0 rfl lvc0 _ C0.out Tryz.underlying39 rfl Ilvc0.out ?_;rw [Elvc0.out]))
         refine (HN0.out w3 (HEC.out.step HB3.out)).mono ?_
         rintro ev w4 ⟨rfl,b4⟩
         have HB4:Hid (Below wc.heap.size wc w4):=hid (HB3.out.trans (b4.mono HB3.out.size))
         have R164:Hid (w4.heap[wr.heap.size]? = some (.cells vp 39 (0,0))):=hid ((b4.block _ hs3).trans R16.out)
         have C14:Hid (w4.rangeAt wc.heap.size 32 lvc1):=hid (rangeAt_block (b4.block _ (by omega)) C1.out)
         have TH5o:Hid (w4.there wc.heap.size 0 64):=hid (there_block2 T3.out (b4.block _ (by omega)))
         have hs4:wr.heap.size < w4.heap.size:=(Array.getElem?_eq_some_iff.1 R164.out).1
         clear b4
         go_upto_region 24 with (refine wpList_store_mid rfl 39 _ _ rfl wc.heap.size 0 vn0 rfl rfl (there_mid2 TH5o.out (by rw [Zvn0.out];omega)) Ivn0.out Ovn0.out ?_)
         obtain ⟨w5,hw5⟩:∃ z,w4.setCells wc.heap.size 0 vn0.toList = z:=⟨_,rfl⟩
         have B5:Hid (But (· = wc.heap.size) w4 w5):=hid (by rw [← hw5];exact (But.refl _ _).setCells (fun _ => rfl))
         have TH5:Hid (w5.there wc.heap.size 0 64):=hid (by rw [← hw5];exact World.there_setCells TH5o.out _ _ _)
         have N5:Hid (w5.rangeAt wc.heap.size 0 lvn0):=hid (by rw [← hw5,Llvn0.out.1];exact World.rangeAt_setCells_same _ _ _ _ (there_mid2 TH5o.out (by rw [Llvn0.out.2];omega)))
         have C15:Hid (w5.rangeAt wc.heap.size 32 lvc1):=hid (by rw [← hw5];exact World.rangeAt_setCells_apart C14.out _ _ _ (.inr (.inr (by rw [Llvn0.out.1,Llvn0.out.2];omega))))
         have R165:Hid (w5.heap[wr.heap.size]? = some (.cells vp 39 (0,0))):=hid ((B5.out.same _ hs4 (by omega)).trans R164.out)
         have HB5:Hid (Below wc.heap.size wc w5):=hid (HB4.out.trans (B5.out.to_below HB4.out.size (fun k hk q => by omega)))
         have hs5:wr.heap.size < w5.heap.size:=(Array.getElem?_eq_some_iff.1 R165.out).1
         rw [hw5]
         clear hw5
         go_wp2_with (first | (refine wpList_load_row rfl 39 _ rfl wr.heap.size rfl 39 vp (0,0) _ R165.out Tryz.underlying39 rfl Ivp.out ?_) | (refine wpList_load_mid rfl 39 _ rfl wc.heap.size 32 rfl lvc1 _ C15.out Tryz.underlying39 rfl Ilvc1.out ?_;rw [Elvc1.out]))
         refine (HN1.out w5 (HEC.out.step HB5.out)).mono ?_
         rintro ev w6 ⟨rfl,b6⟩
         have HB6:Hid (Below wc.heap.size wc w6):=hid (HB5.out.trans (b6.mono HB5.out.size))
         have N06:Hid (w6.rangeAt wc.heap.size 0 lvn0):=hid (rangeAt_block (b6.block _ (by omega)) N5.out)
         have TH7o:Hid (w6.there wc.heap.size 0 64):=hid (there_block2 TH5.out (b6.block _ (by omega)))
         have hs6:wr.heap.size < w6.heap.size:=by have:=b6.size;omega
         clear b6
         go_upto_region 25 with (refine wpList_store_mid rfl 39 _ _ rfl wc.heap.size 32 vn1 rfl rfl (there_mid2 TH7o.out (by rw [Zvn1.out];omega)) Ivn1.out Ovn1.out ?_)
         obtain ⟨w7,hw7⟩:∃ z,w6.setCells wc.heap.size 32 vn1.toList = z:=⟨_,rfl⟩
         have B7:Hid (But (· = wc.heap.size) w6 w7):=hid (by rw [← hw7];exact (But.refl _ _).setCells (fun _ => rfl))
         have TH7:Hid (w7.there wc.heap.size 0 64):=hid (by rw [← hw7];exact World.there_setCells TH7o.out _ _ _)
         have N7:Hid (w7.rangeAt wc.heap.size 32 lvn1):=hid (by rw [← hw7,Llvn1.out.1];exact World.rangeAt_setCells_same _ _ _ _ (there_mid2 TH7o.out (by rw [Llvn1.out.2];omega)))
         have N07:Hid (w7.rangeAt wc.heap.size 0 lvn0):=hid (by rw [← hw7];exact World.rangeAt_setCells_apart N06.out _ _ _ (.inr (.inl (by rw [Llvn0.out.2];omega))))
         have HB7:Hid (Below wc.heap.size wc w7):=hid (HB6.out.trans (B7.out.to_below HB6.out.size (fun k hk q => by omega)))
         have hs7:wr.heap.size < w7.heap.size:=by have:=B7.out.size;omega
         rw [hw7]
         clear hw7
         go_wp2_with fail
         refine (HUP.out w7).mono ?_
         rintro ev w8 ⟨z,rfl,hzo,hzx,hzs,rfl⟩
         have SN:Hid (CSays nodeH (z / 2) (z / 2) (nodeH p c0) (nodeH p c1) (rest.drop (j+1)) b0 b1 ↔ Q):=hid ((CSays.odd_iff nodeH (by omega) hzo).symm.trans ((hzs _ _ _ _ _).symm.trans SC.out))
         clear hzo hzs
         go_wp2
         go_roundw
         case rel => exact ⟨j+1,z / 2,z / 2,nodeH p c0,nodeH p c1,by omega,by go_num,by go_num,by go_num,by omega,by omega,hid ⟨nodeH_length _ _,nodeH_length _ _,SN.out⟩,hid (by rw [Blvn0.out];exact N07.out),hid (by rw [Blvn1.out];exact N7.out),TH7,HB7,by omega⟩
         case measure => simp [intOf];omega
        ·have t2:((x:Int) == (y:Int)) = false:=by simp;omega
         have SN:Hid (CSays nodeH (x / 2) (y / 2) c0 (nodeH c1 p) (rest.drop (j+1)) b0 b1 ↔ Q):=hid ((CSays.even_iff nodeH (by omega) he hxe).symm.trans SC.out)
         clear ha ho he
         go_upto_region 26 with (first
          | (refine wpList_load_mid rfl 39 _ rfl g (o+j * 32) rfl lvp _ HR.out Tryz.underlying39 rfl Ilvp.out ?_;rw [Elvp.out])
          | (refine wpList_store_row_any rfl 39 _ _ rfl wr.heap.size vp rfl rfl 39 _ (heap_at _ _ _ rfl) Ivp.out (by rw [Zvp.out];rfl) Ovp.out ?_;intro w3 hbN hgN hsN;have b3:Below wr.heap.size wr w3:=((Below.refl _ wr).alloc (Nat.le_refl _) _).trans (hbN.to_below (by simp) (fun k hk q => by omega));have R16:=hid hgN;clear hbN hgN hsN))
         have HB3:Hid (Below wc.heap.size wc w3):=hid (HBW.out.trans (b3.mono (by omega)))
         have C0:Hid (w3.rangeAt wc.heap.size 0 lvc0):=hid (rangeAt_block (b3.block _ (by omega)) HC0.out)
         have C1:Hid (w3.rangeAt wc.heap.size 32 lvc1):=hid (rangeAt_block (b3.block _ (by omega)) HC1.out)
         have T3:Hid (w3.there wc.heap.size 0 64):=hid (there_block2 HTH.out (b3.block _ (by omega)))
         have hs3:wr.heap.size < w3.heap.size:=(Array.getElem?_eq_some_iff.1 R16.out).1
         obtain ⟨vn1,evn1,Hvn1,Zvn1,Ivn1,Ovn1⟩:=row_of (nodeH c1 p) (nodeH_length _ _)
         obtain ⟨lvn1,hlvn1⟩:∃ q,bytesV (nodeH c1 p) = q:=⟨_,rfl⟩
         have Elvn1:Hid (lvn1.toArray = vn1):=hid (by rw [← hlvn1];exact Hvn1.out)
         have Ilvn1:Hid ((Tryz.prog.info? 39).map (·.size) = some lvn1.length):=hid (by rw [← hlvn1,bytesV_length,(nodeH_length _ _)];kernel_rfl)
         have Llvn1:Hid (vn1.toList = lvn1 ∧ lvn1.length = 32):=hid ⟨by rw [← Elvn1.out],by rw [← hlvn1,bytesV_length,(nodeH_length _ _)]⟩
         have Blvn1:=hid hlvn1
         have EVvn1:=hid evn1
         clear hlvn1 evn1
         have HN1:Hid (∀ w,Env B a w → Calls Tryz.prog 58 #[.agg vc1,.agg vp] w fun ev w' => ev = .returned (.agg vn1) ∧ Below w.heap.size w w'):=hid (fun w h => by
          have:=hnode_any c1 p w HCL.out.2 HPL.out h.tab
          rw [EVvc1.out,EVvp.out,EVvn1.out] at this;exact this)
         go_wp2_with (first | (refine wpList_load_row rfl 39 _ rfl wr.heap.size rfl 39 vp (0,0) _ R16.out Tryz.underlying39 rfl Ivp.out ?_) | (refine wpList_load_mid rfl 39 _ rfl wc.heap.size 32 rfl lvc1 _ C1.out Tryz.underlying39 rfl Ilvc1.out ?_;rw [Elvc1.out]))
         refine (HN1.out w3 (HEC.out.step HB3.out)).mono ?_
         rintro ev w4 ⟨rfl,b4⟩
         have HB4:Hid (Below wc.heap.size wc w4):=hid (HB3.out.trans (b4.mono HB3.out.size))
         have C04:Hid (w4.rangeAt wc.heap.size 0 lvc0):=hid (rangeAt_block (b4.block _ (by omega)) C0.out)
         have TH5o:Hid (w4.there wc.heap.size 0 64):=hid (there_block2 T3.out (b4.block _ (by omega)))
         have hs4:wr.heap.size < w4.heap.size:=by have:=b4.size;omega
         clear b4
         go_upto_region 27 with (refine wpList_store_mid rfl 39 _ _ rfl wc.heap.size 32 vn1 rfl rfl (there_mid2 TH5o.out (by rw [Zvn1.out];omega)) Ivn1.out Ovn1.out ?_)
         obtain ⟨w5,hw5⟩:∃ z,w4.setCells wc.heap.size 32 vn1.toList = z:=⟨_,rfl⟩
         have B5:Hid (But (· = wc.heap.size) w4 w5):=hid (by rw [← hw5];exact (But.refl _ _).setCells (fun _ => rfl))
         have TH5:Hid (w5.there wc.heap.size 0 64):=hid (by rw [← hw5];exact World.there_setCells TH5o.out _ _ _)
         have N5:Hid (w5.rangeAt wc.heap.size 32 lvn1):=hid (by rw [← hw5,Llvn1.out.1];exact World.rangeAt_setCells_same _ _ _ _ (there_mid2 TH5o.out (by rw [Llvn1.out.2];omega)))
         have C05:Hid (w5.rangeAt wc.heap.size 0 lvc0):=hid (by rw [← hw5];exact World.rangeAt_setCells_apart C04.out _ _ _ (.inr (.inl (by rw [Llvc0.out.2];omega))))
         have HB5:Hid (Below wc.heap.size wc w5):=hid (HB4.out.trans (B5.out.to_below HB4.out.size (fun k hk q => by omega)))
         have hs5:wr.heap.size < w5.heap.size:=by have:=B5.out.size;omega
         rw [hw5]
         clear hw5
         go_wp2
         go_roundw
         case rel => exact ⟨j+1,x / 2,y / 2,c0,nodeH c1 p,by omega,by go_num,by go_num,by go_num,by omega,by omega,hid ⟨HCL.out.1,nodeH_length _ _,SN.out⟩,hid (by rw [Blvc0.out];exact C05.out),hid (by rw [Blvn1.out];exact N5.out),TH5,HB5,by omega⟩
         case measure => simp [intOf];omega
     ·obtain rfl:m' = j:=by omega
      have HEN:Hid ((y = 0 ∧ b0 = c0 ∧ b1 = c1) ↔ Q):=hid (by
       have:=HC.out.2.2
       rw [List.drop_eq_nil_of_le (by have:=LP.out;omega),CSays.nil_iff nodeH hxy] at this
       exact this)
      have he10:=(HEC.out.step HBW.out).laid.e10
      have hg10:2 < wr.heap.size:=block_of_cell he10
      by_cases hyz:y = 0
      case neg =>
       have hyb:((y:Int) != 0) = true:=by simp;omega
       have HNQ:Hid (¬ Q):=hid (fun q => hyz (HEN.out.2 q).1)
       go_wp2_with fail
       go_ret
       exact ⟨.inr ⟨HNQ.out,rfl⟩,HBC.out.trans (HBW.out.mono HBC.out.size)⟩
      have hyb:((y:Int) != 0) = false:=by simp;omega
      have HYZ:=hid hyz
      clear hyz
      have HB7:Hid (wr.heap[w.heap.size]? = some (.cells v0 39 (0,0))):=hid ((HBW.out.block _ (by have:=HSV.out;omega)).trans ((BW'.out.block _ (by have:=HSV.out;omega)).trans R7.out))
      have HB8:Hid (wr.heap[w.heap.size+1]? = some (.cells v1 39 (0,0))):=hid ((HBW.out.block _ (by have:=HSV.out;omega)).trans ((BW'.out.block _ (by have:=HSV.out;omega)).trans R8.out))
      have RR:Hid (wr.rangeAt wc.heap.size 0 (lvc0 ++ lvc1)):=hid (fun i v hi => by
       by_cases q:i < 32
       ·rw [List.getElem?_append_left (by rw [Llvc0.out.2];exact q)] at hi
        exact HC0.out i v hi
       ·rw [List.getElem?_append_right (by rw [Llvc0.out.2];omega),Llvc0.out.2] at hi
        have:=HC1.out (i - 32) v hi
        rwa [show 32+(i - 32) = 0+i by omega] at this)
      have ET:Hid ((lvc0 ++ lvc1).toArray = twoV vc0 vc1):=hid (by unfold twoV;rw [Llvc0.out.1,Llvc1.out.1])
      have IT:Hid ((Tryz.prog.info? 132).map (·.size) = some (lvc0 ++ lvc1).length):=hid (by rw [List.length_append,Llvc0.out.2,Llvc1.out.2];kernel_rfl)
      obtain ⟨vt2,hvt2⟩:∃ z,twoV v0 v1 = z:=⟨_,rfl⟩
      have hbe:∀ w,(Instr.build 132 #[(0,.agg v0),(1,.agg v1)]).run Tryz.prog w = .ok (.agg vt2) w:=fun w => by rw [← hvt2];exact built_pair v0 v1 Zv0.out Zv1.out w
      obtain ⟨vt3,hvt3⟩:∃ z,twoV vc0 vc1 = z:=⟨_,rfl⟩
      obtain ⟨q,hq⟩:∃ q,decide (c0 = b0 ∧ c1 = b1) = q:=⟨_,rfl⟩
      have hqe:∀ w,(Op.equalIn 10000 132 (.agg vt3) (.agg vt2)).run Tryz.prog w = .ok q w:=fun w => by
       rw [← hvt2,← hvt3,eq_pair c0 c1 b0 b1 HCL.out.1 HCL.out.2 HH.out.1 HH.out.2.1 vc0 vc1 v0 v1 EVvc0.out EVvc1.out E01.out.1 E01.out.2 w,← hq]
       by_cases q0:c0 = b0 <;> by_cases q1:c1 = b1 <;> simp [q0,q1]
      rw [hvt3] at ET
      have HQ:Hid (q = true ↔ Q):=hid (by
       rw [← HEN.out,← hq]
       simp only [decide_eq_true_eq]
       exact ⟨fun h => ⟨HYZ.out,h.1.symm,h.2.symm⟩,fun h => ⟨h.2.1.symm,h.2.2.symm⟩⟩)
      clear hvt3 hq
      have HTE:=hid hvt2
      clear hvt2 hbe
      cases q
      all_goals
       go_wp2_with (first
        | (refine wpList_build_pair rfl _ _ rfl v0 v1 rfl rfl Zv0.out Zv1.out ?_;rw [HTE.out])
        | (refine wpList_load_mid_g2 rfl 132 _ rfl wc.heap.size 0 rfl (lvc0 ++ lvc1) _ RR.out Tryz.underlying132 rfl IT.out ?_;rw [ET.out])
        | (refine wpList_load_row_g rfl 39 _ rfl w.heap.size rfl 39 v0 (0,0) _ HB7.out Tryz.underlying39 rfl Iv0.out ?_)
        | (refine wpList_load_row_g rfl 39 _ rfl (w.heap.size+1) rfl 39 v1 (0,0) _ HB8.out Tryz.underlying39 rfl Iv1.out ?_))
       go_ret
       first
        | exact ⟨.inl ⟨HQ.out.1 (by simp),rfl⟩,HBC.out.trans (HBW.out.mono HBC.out.size)⟩
        | exact ⟨.inr ⟨fun h => absurd (HQ.out.2 h) (by simp),rfl⟩,HBC.out.trans (HBW.out.mono HBC.out.size)⟩
theorem vcons_ok (a:Nat → Addr) (B M N:Nat) (b0 b1:List UInt8) (A:Option Addr) (m c:Nat) (ps:List (List UInt8)) (w:World) (hE:Env B a w) (h0:b0.length = 32) (h1:b1.length = 32) (hp:HIn w A m c ps) {k n:Nat} {h:List UInt8} {rest:List (List UInt8)} (hM:M = 2 ^ k * (n+1)) (he:n % 2 = 0) (hMN:M < N) (hN:N ≤ 9223372036854775808) (hps:ps = (if M = 2 ^ k then [] else [h]) ++ rest) (hh:M = 2 ^ k → h = b0) (lh:h.length = 32) (hs:CSays nodeH n ((N - 1) / 2 ^ k) h h rest b0 b1) (hm9:m ≤ 1000000000) :
 Calls Tryz.prog 42 #[.int .u64 M,.int .u64 N,hv b0,hv b1,.slice A m c] w fun e w' => e = .returned .nilIface ∧ Below w.heap.size w w' :=
 (vcons_gen a B M N b0 b1 A m c ps w hE h0 h1 hp hM he hMN hN hps hh lh _ Iff.rfl hm9).mono (fun e w' h => ⟨h.1.elim (·.2) (fun q => absurd hs q.1),h.2⟩)
end Go.Proofs.YtpdkpdpkggepcaaGreatDoor
