import Derived.Test.YtpdkpdpkggepcaaGreatDoorRows
import Derived.Test.YtpdkpdpkggepcaaGreatDoorLogPlain
import Derived.Test.YtpdkpdpkggepcaaGreatDoorShapePath
import Derived.Test.YtpdkpdpkggepcaaGreatDoorShapeProof
import Derived.Test.YtpdkpdpkggepcaaGreatDoorHashMem
import Derived.Deep.RegionHeld3
import Derived.Deep.AppendLies
import Derived.Outline
/- Contracts of bits.Below and bits.Log, and of the reference's: whatever number they are given. -/
namespace Go.Proofs.YtpdkpdpkggepcaaGreatDoor
open Go.ChangeShapes Go.WideShapes Go.ChangeAt Go.RowKit
set_option maxRecDepth 100000
set_option maxHeartbeats 2000000
open Lib (hid)
set_option linter.unusedVariables false
theorem refbelow_yes (n:Int) (w:World) (h2:2 ≤ n) (h:n < 18446744073709551616) :
 Calls Tryz.prog 108 #[.int .u64 n] w fun e w' => e = .returned (.tuple #[.int .u64 (blwI n),.bool true]) ∧ w = w':=by
 go_enter Tryz.func108,Tryz.ntmps108
 go_wp2
 go_loop [4] (fun v => ∃ (e:Nat) (p:Int),Hid (p = ((2 ^ e:Nat):Int)) ∧ p ≤ 9223372036854775808 ∧ 1 ≤ p ∧ p < n ∧ v = .int .u64 p) (fun v => (18446744073709551616 - intOf v).toNat)
 case atStart => exact ⟨0,1,hid rfl,by omega,by omega,by omega,rfl⟩
 case round =>
  obtain ⟨e,p,HE,hp,hp1,hnp,rfl⟩:=hrel
  by_cases hlt:p < 9223372036854775808
  ·have h3:=(pw_lt63 HE.out hlt).2
   by_cases hc:p * 2 < n
   ·go_wp2
    go_round
    case rel => exact ⟨e+1,p * 2,hid (by rw [pw_succ];have:=HE.out;omega),by omega,by omega,by omega,rfl⟩
    case measure => simp [intOf];omega
   ·go_wp2
    go_ret2
    exact ⟨ret_pair (blwI_eq HE.out hnp (by omega)) rfl,rfl⟩
  ·have hc:n ≤ 2 * p:=by omega
   go_wp2
   go_ret2
   exact ⟨ret_pair (blwI_eq HE.out hnp (by omega)) rfl,rfl⟩
/- cartularyref07.Split, path, sub: what the reference answers. No condition. -/
def RefPost (e size:Nat) (w:World) (n:Nat) (xs:List Value) (ev:Ending) (w':World):Prop :=
 ∃ v,ev = .returned v ∧ w'.ownsRow w.heap.size e size v n xs ∧ Below w.heap.size w w'
theorem refsplit_yes (n:Int) (w:World) (h2:2 ≤ n) (h:n ≤ 9223372036854775808) :
 Calls Tryz.prog 98 #[.int .u64 n] w fun e w' => e = .returned (.tuple #[.int .u64 (blwI n),.bool true]) ∧ w = w':=by
 go_enter Tryz.func98,Tryz.ntmps98
 go_wp2_with fail
 refine (refbelow_yes _ _ h2 (by omega)).mono ?_
 rintro e w' ⟨rfl,rfl⟩
 go_wp2
 go_ret2
 exact ⟨rfl,rfl⟩
/- cartularyref07.sub: what the reference answers. No condition. -/
theorem refsub (f:Nat):∀ (b e k:Int) (kn:Bool) (w:World),f ≤ 64 → 0 ≤ b → 0 < k → k ≤ e - b → e ≤ 9223372036854775808 → e - b ≤ pow2 f → kn = decide (b = 0) →
 Calls Tryz.prog 86 #[.int .u64 k,.agg #[.int .u64 b,.int .u64 e],.bool kn] w (RefPost 84 2 w (proofL f (b+k) b e).length (spanCells (proofL f (b+k) b e))):=by
 have base:∀ (f:Nat) (b e k:Int) (kn:Bool) (w:World),0 ≤ b → 0 < k → k = e - b → e ≤ 9223372036854775808 → kn = decide (b = 0) →
  Calls Tryz.prog 86 #[.int .u64 k,.agg #[.int .u64 b,.int .u64 e],.bool kn] w (RefPost 84 2 w (proofL f (b+k) b e).length (spanCells (proofL f (b+k) b e))):=by
  intro f b e k kn w h0 h1 hk he hkn
  have hP:proofL f (b+k) b e = if 0 < b then [(b,e)] else []:=by rw [show b+k = e by omega,proofL_end]
  rw [hP]
  clear hP
  have heq:(k == e - b) = true:=by simp;omega
  by_cases hb:b = 0
  ·obtain rfl:kn = true:=by rw [hkn];simpa using hb
   rw [if_neg (by omega)]
   clear hkn hb
   go_enter Tryz.func86,Tryz.ntmps86
   go_wp2
   go_ret
   refine ⟨_,rfl,World.ownsRow_nil _ _ _ _,?_⟩
   repeat (first | exact Below.refl _ _ | (refine below_drewN ?_) | (refine Below.drew ?_) | (refine Below.alloc ?_ (by simp;try omega) _) | (refine Below.setCell ?_ (by simp;try omega) _))
  ·obtain rfl:kn = false:=by rw [hkn];simpa using hb
   rw [if_pos (by omega)]
   clear hkn hb
   go_enter Tryz.func86,Tryz.ntmps86
   go_wp2
   go_ret
   refine ⟨_,rfl,own_congr (by have h:=own_new (w:=w.alloc (.cells #[.int .u64 b,.int .u64 e] 84)) (base:=w.heap.size) #[.int .u64 b,.int .u64 e] 84 1 2 (by simp) rfl (by decide);rw [World.size_alloc] at h;exact h) rfl rfl,?_⟩
   repeat (first | exact Below.refl _ _ | (refine below_drewN ?_) | (refine Below.drew ?_) | (refine Below.alloc ?_ (by simp;try omega) _) | (refine Below.setCell ?_ (by simp;try omega) _))
 induction f with
 | zero =>
  intro b e k kn w hf64 h0 h1 hk he hfu hkn
  rw [pow2_zero] at hfu
  exact base 0 b e k kn w h0 h1 (by omega) he hkn
 | succ f ih =>
  intro b e k kn w hf64 h0 h1 hk1 he hfu hkn
  by_cases hs:k = e - b
  ·exact base (f+1) b e k kn w h0 h1 hs he hkn
  ·have hk:=blwI_bd (n:=e - b) (by omega)
   have hkf:=blwI_le_pow (n:=e - b) (f:=f) (by omega) hfu
   have hneq:(k == e - b) = false:=by simpa using hs
   obtain ⟨i0,hi,hz0,hz1,hz2⟩:=info_parts info_span
   have HI:=hid ih
   clear ih base
   obtain ⟨m,hm⟩:∃ m,b+blwI (e - b) = m:=⟨_,rfl⟩
   have HP:Hid (proofL (f+1) (b+k) b e = if b+k ≤ m then proofL f (b+k) b m ++ [(m,e)] else proofL f (b+k) m e ++ [(b,m)]):=hid (by rw [proofL,if_neg (by omega),hm])
   have hmb:b < m ∧ m < e:=by omega
   have hpw:Hid (m - b ≤ pow2 f ∧ e - m ≤ pow2 f):=hid (by omega)
   have HKN:=hid hkn
   clear hfu hkf hkn
   go_enter Tryz.func86,Tryz.ntmps86
   go_wp2_with fail
   refine (refsplit_yes _ _ (by omega) (by omega)).mono ?_
   rintro ev w' ⟨rfl,rfl⟩
   obtain ⟨t,ht⟩:∃ t,blwI (e - b) = t:=⟨_,rfl⟩
   rw [ht]
   have htm:b+t = m:=by omega
   have HTM:=hid htm
   rw [ht] at hk hm
   by_cases hlt:k ≤ t
   ·have HP2:Hid (proofL (f+1) (b+k) b e = proofL f (b+k) b m ++ [(m,e)]):=hid (by rw [HP.out,if_pos (by omega)])
    have hll:=proofL_len f (b+k) b m
    have hkm:k ≤ m - b:=by omega
    go_wp2_with fail
    obtain ⟨W,hW⟩:∃ W,((w.alloc (.cells #[.int .u64 b,.int .u64 e] 84)).alloc (.cells #[.int .u64 b,.int .u64 m] 84)).alloc (.cells #[.int .u64 m,.int .u64 e] 84) = W:=⟨_,rfl⟩
    have hWs:w.heap.size+3 ≤ W.heap.size:=by rw [← hW];simp
    have hbW:Below w.heap.size w W:=by rw [← hW];exact (((Below.refl _ _).alloc (by simp) _).alloc (by simp) _).alloc (by simp;omega) _
    have p0:W.cell? ⟨w.heap.size+1,0,none⟩ = some (.int .u64 b):=by rw [← hW,show w.heap.size+1 = (w.alloc (.cells #[.int .u64 b,.int .u64 e] 84)).heap.size by simp];exact cell_alloc (cell_new #[.int .u64 b,.int .u64 m] 84 0 (.int .u64 b) rfl) _
    have p1:W.cell? ⟨w.heap.size+1,1,none⟩ = some (.int .u64 m):=by rw [← hW,show w.heap.size+1 = (w.alloc (.cells #[.int .u64 b,.int .u64 e] 84)).heap.size by simp];exact cell_alloc (cell_new #[.int .u64 b,.int .u64 m] 84 1 (.int .u64 m) rfl) _
    have q0:W.cell? ⟨w.heap.size+2,0,none⟩ = some (.int .u64 m):=by rw [← hW,show w.heap.size+2 = ((w.alloc (.cells #[.int .u64 b,.int .u64 e] 84)).alloc (.cells #[.int .u64 b,.int .u64 m] 84)).heap.size by simp];exact cell_new #[.int .u64 m,.int .u64 e] 84 0 (.int .u64 m) rfl
    have q1:W.cell? ⟨w.heap.size+2,1,none⟩ = some (.int .u64 e):=by rw [← hW,show w.heap.size+2 = ((w.alloc (.cells #[.int .u64 b,.int .u64 e] 84)).alloc (.cells #[.int .u64 b,.int .u64 m] 84)).heap.size by simp];exact cell_new #[.int .u64 m,.int .u64 e] 84 1 (.int .u64 e) rfl
    rw [hW]
    clear hW
    have K4:∀ w':World,Below W.heap.size W w' → w'.cell? ⟨w.heap.size+1,0,none⟩ = some (.int .u64 b) ∧ w'.cell? ⟨w.heap.size+1,1,none⟩ = some (.int .u64 m) ∧ w'.cell? ⟨w.heap.size+2,0,none⟩ = some (.int .u64 m) ∧ w'.cell? ⟨w.heap.size+2,1,none⟩ = some (.int .u64 e) :=
     fun w' hq => ⟨cell_below hq p0 (by omega),cell_below hq p1 (by omega),cell_below hq q0 (by omega),cell_below hq q1 (by omega)⟩
    have K4b:∀ w':World,(∀ k:Nat,k < W.heap.size → w'.heap[k]? = W.heap[k]?) → w'.cell? ⟨w.heap.size+1,0,none⟩ = some (.int .u64 b) ∧ w'.cell? ⟨w.heap.size+1,1,none⟩ = some (.int .u64 m) ∧ w'.cell? ⟨w.heap.size+2,0,none⟩ = some (.int .u64 m) ∧ w'.cell? ⟨w.heap.size+2,1,none⟩ = some (.int .u64 e) :=
     fun w' h => ⟨cell_block (h _ (by omega)) p0,cell_block (h _ (by omega)) p1,cell_block (h _ (by omega)) q0,cell_block (h _ (by omega)) q1⟩
    go_region_held3 (fun w' => w'.cell? ⟨w.heap.size+1,0,none⟩ = some (.int .u64 b) ∧ w'.cell? ⟨w.heap.size+1,1,none⟩ = some (.int .u64 m) ∧ w'.cell? ⟨w.heap.size+2,0,none⟩ = some (.int .u64 m) ∧ w'.cell? ⟨w.heap.size+2,1,none⟩ = some (.int .u64 e))
     (first | exact s3 | exact K4 _ (by (repeat (first | assumption | exact Below.refl _ _ | (refine Below.drew ?_) | (refine below_drewN ?_) | (refine Below.alloc ?_ (by first | omega | (simp;omega) | simp) _)))))
     (first
      | (refine step_append_lies _ rfl _ _ 64 rfl w.heap.size 84 i0 (.agg #[.int .u64 0,.int .u64 0]) 2 16 Tryz.underlying64 hi hz0 hz1 hz2 rfl (by decide) v1 _ _ rfl (o1.alloc _) ⟨w1.heap.size,0,none⟩ 1 1 [.int .u64 m,.int .u64 e] rfl rfl (news_new _ _) (by simp [Value.oneCell']) (by decide) (by unfold maxLen;omega) (by omega) (by first | omega | (simp;omega)) _ rfl ?_;intro g3 cap3 w3 hown3 hgrow3 hat3 hlt3;have hbw3:Below w.heap.size w w3:=((hbW.trans (hq.mono (by omega))).alloc (by first | omega | (simp;omega)) _).grown hgrow3 (by first | omega | (simp;omega)) (fun k hk => (o1.lt k hk).1);have s3:=K4b w3 (fun k hk => (hgrow3.block k (by first | omega | (simp;omega)) (fun q => hob k hk q)).trans ((((Below.refl _ w1).alloc (Nat.le_refl _) _).block k (by omega)).trans (hq.block k (by omega)))))
      | (refine step_append_lies _ rfl _ _ 64 rfl w.heap.size 84 i0 (.agg #[.int .u64 0,.int .u64 0]) 2 16 Tryz.underlying64 hi hz0 hz1 hz2 rfl (by decide) v1 _ _ rfl o1 ⟨W.heap.size,0,none⟩ 1 1 [.int .u64 m,.int .u64 e] rfl rfl (fun j u hu => by rw [addr_add];exact cell_below bq (cell_new _ _ j u (by simpa using hu)) (by simp)) (by simp [Value.oneCell']) (by decide) (by unfold maxLen;omega) (by omega) (by omega) _ rfl ?_;intro g3 cap3 w3 hown3 hgrow3 hat3 hlt3;have hbw3:Below w.heap.size w w3:=(hbW.trans (hq.mono (by omega))).grown hgrow3 (by omega) (fun k hk => (o1.lt k hk).1);have s3:=K4b w3 (fun k hk => (hgrow3.block k (by omega) (fun q => hob k hk q)).trans (hq.block k (by omega))))
      | (go_at_call 86;refine (HI.out b m k kn _ (by omega) h0 h1 hkm (by omega) hpw.out.1 HKN.out).mono ?_;rintro ev w1 ⟨v1,rfl,o1,bq⟩;have hq:Below W.heap.size W w1:=Below.trans (by (repeat (first | assumption | exact Below.refl _ _ | (refine Below.drew ?_) | (refine below_drewN ?_) | (refine Below.alloc ?_ (by first | omega | (simp;omega) | simp) _)))) (bq.mono (by simp));have hob:∀ k,k < W.heap.size → some k = v1.ownBlock → False:=fun k hk q => (by have h1:=(o1.lt k q.symm).1;simp at h1;omega);have o1:w1.ownsRow w.heap.size 84 2 v1 _ _:=own_mono o1 (by first | omega | (simp;omega));have hs1:=hq.size))
    all_goals
     go_wp2
     go_ret
     refine ⟨_,rfl,own_congr hown3 ?_ ?_,hbw3⟩
     ·rw [HP2.out];simp
     ·rw [HP2.out,spanCells_append];rfl
   ·have HP2:Hid (proofL (f+1) (b+k) b e = proofL f (m+(k - t)) m e ++ [(b,m)]):=hid (by rw [HP.out,if_neg (by omega),show m+(k - t) = b+k by omega])
    have hll:=proofL_len f (m+(k - t)) m e
    have hkm:0 < k - t ∧ k - t ≤ e - m:=by omega
    have hm0:Hid (false = decide (m = 0)):=hid (by simp;omega)
    have hkt0:0 ≤ k - t:=by omega
    have hkt1:k - t < 18446744073709551616:=by omega
    have hkt2:t < k:=by omega
    have hkw:IntKind.u64.wrap (k - t) = k - t:=by rw [wrap_u64];exact Int.emod_eq_of_lt hkt0 hkt1
    go_wp2_with fail
    obtain ⟨W,hW⟩:∃ W,((w.alloc (.cells #[.int .u64 b,.int .u64 e] 84)).alloc (.cells #[.int .u64 b,.int .u64 m] 84)).alloc (.cells #[.int .u64 m,.int .u64 e] 84) = W:=⟨_,rfl⟩
    have hWs:w.heap.size+3 ≤ W.heap.size:=by rw [← hW];simp
    have hbW:Below w.heap.size w W:=by rw [← hW];exact (((Below.refl _ _).alloc (by simp) _).alloc (by simp) _).alloc (by simp;omega) _
    have p0:W.cell? ⟨w.heap.size+1,0,none⟩ = some (.int .u64 b):=by rw [← hW,show w.heap.size+1 = (w.alloc (.cells #[.int .u64 b,.int .u64 e] 84)).heap.size by simp];exact cell_alloc (cell_new #[.int .u64 b,.int .u64 m] 84 0 (.int .u64 b) rfl) _
    have p1:W.cell? ⟨w.heap.size+1,1,none⟩ = some (.int .u64 m):=by rw [← hW,show w.heap.size+1 = (w.alloc (.cells #[.int .u64 b,.int .u64 e] 84)).heap.size by simp];exact cell_alloc (cell_new #[.int .u64 b,.int .u64 m] 84 1 (.int .u64 m) rfl) _
    have q0:W.cell? ⟨w.heap.size+2,0,none⟩ = some (.int .u64 m):=by rw [← hW,show w.heap.size+2 = ((w.alloc (.cells #[.int .u64 b,.int .u64 e] 84)).alloc (.cells #[.int .u64 b,.int .u64 m] 84)).heap.size by simp];exact cell_new #[.int .u64 m,.int .u64 e] 84 0 (.int .u64 m) rfl
    have q1:W.cell? ⟨w.heap.size+2,1,none⟩ = some (.int .u64 e):=by rw [← hW,show w.heap.size+2 = ((w.alloc (.cells #[.int .u64 b,.int .u64 e] 84)).alloc (.cells #[.int .u64 b,.int .u64 m] 84)).heap.size by simp];exact cell_new #[.int .u64 m,.int .u64 e] 84 1 (.int .u64 e) rfl
    rw [hW]
    clear hW
    have K4:∀ w':World,Below W.heap.size W w' → w'.cell? ⟨w.heap.size+1,0,none⟩ = some (.int .u64 b) ∧ w'.cell? ⟨w.heap.size+1,1,none⟩ = some (.int .u64 m) ∧ w'.cell? ⟨w.heap.size+2,0,none⟩ = some (.int .u64 m) ∧ w'.cell? ⟨w.heap.size+2,1,none⟩ = some (.int .u64 e) :=
     fun w' hq => ⟨cell_below hq p0 (by omega),cell_below hq p1 (by omega),cell_below hq q0 (by omega),cell_below hq q1 (by omega)⟩
    have K4b:∀ w':World,(∀ k:Nat,k < W.heap.size → w'.heap[k]? = W.heap[k]?) → w'.cell? ⟨w.heap.size+1,0,none⟩ = some (.int .u64 b) ∧ w'.cell? ⟨w.heap.size+1,1,none⟩ = some (.int .u64 m) ∧ w'.cell? ⟨w.heap.size+2,0,none⟩ = some (.int .u64 m) ∧ w'.cell? ⟨w.heap.size+2,1,none⟩ = some (.int .u64 e) :=
     fun w' h => ⟨cell_block (h _ (by omega)) p0,cell_block (h _ (by omega)) p1,cell_block (h _ (by omega)) q0,cell_block (h _ (by omega)) q1⟩
    go_region_held3 (fun w' => w'.cell? ⟨w.heap.size+1,0,none⟩ = some (.int .u64 b) ∧ w'.cell? ⟨w.heap.size+1,1,none⟩ = some (.int .u64 m) ∧ w'.cell? ⟨w.heap.size+2,0,none⟩ = some (.int .u64 m) ∧ w'.cell? ⟨w.heap.size+2,1,none⟩ = some (.int .u64 e))
     (first | exact s3 | exact K4 _ (by (repeat (first | assumption | exact Below.refl _ _ | (refine Below.drew ?_) | (refine below_drewN ?_) | (refine Below.alloc ?_ (by first | omega | (simp;omega) | simp) _)))))
     (first
      | (refine step_append_lies _ rfl _ _ 64 rfl w.heap.size 84 i0 (.agg #[.int .u64 0,.int .u64 0]) 2 16 Tryz.underlying64 hi hz0 hz1 hz2 rfl (by decide) v1 _ _ rfl (o1.alloc _) ⟨w1.heap.size,0,none⟩ 1 1 [.int .u64 b,.int .u64 m] rfl rfl (news_new _ _) (by simp [Value.oneCell']) (by decide) (by unfold maxLen;omega) (by omega) (by first | omega | (simp;omega)) _ rfl ?_;intro g3 cap3 w3 hown3 hgrow3 hat3 hlt3;have hbw3:Below w.heap.size w w3:=((hbW.trans (hq.mono (by omega))).alloc (by first | omega | (simp;omega)) _).grown hgrow3 (by first | omega | (simp;omega)) (fun k hk => (o1.lt k hk).1);have s3:=K4b w3 (fun k hk => (hgrow3.block k (by first | omega | (simp;omega)) (fun q => hob k hk q)).trans ((((Below.refl _ w1).alloc (Nat.le_refl _) _).block k (by omega)).trans (hq.block k (by omega)))))
      | (refine step_append_lies _ rfl _ _ 64 rfl w.heap.size 84 i0 (.agg #[.int .u64 0,.int .u64 0]) 2 16 Tryz.underlying64 hi hz0 hz1 hz2 rfl (by decide) v1 _ _ rfl o1 ⟨W.heap.size,0,none⟩ 1 1 [.int .u64 b,.int .u64 m] rfl rfl (fun j u hu => by rw [addr_add];exact cell_below bq (cell_new _ _ j u (by simpa using hu)) (by simp)) (by simp [Value.oneCell']) (by decide) (by unfold maxLen;omega) (by omega) (by omega) _ rfl ?_;intro g3 cap3 w3 hown3 hgrow3 hat3 hlt3;have hbw3:Below w.heap.size w w3:=(hbW.trans (hq.mono (by omega))).grown hgrow3 (by omega) (fun k hk => (o1.lt k hk).1);have s3:=K4b w3 (fun k hk => (hgrow3.block k (by omega) (fun q => hob k hk q)).trans (hq.block k (by omega))))
      | (go_at_call 86;refine (HI.out m e (k - t) false _ (by omega) (by omega) hkm.1 hkm.2 he hpw.out.2 hm0.out).mono ?_;rintro ev w1 ⟨v1,rfl,o1,bq⟩;have hq:Below W.heap.size W w1:=Below.trans (by (repeat (first | assumption | exact Below.refl _ _ | (refine Below.drew ?_) | (refine below_drewN ?_) | (refine Below.alloc ?_ (by first | omega | (simp;omega) | simp) _)))) (bq.mono (by simp));have hob:∀ k,k < W.heap.size → some k = v1.ownBlock → False:=fun k hk q => (by have h1:=(o1.lt k q.symm).1;simp at h1;omega);have o1:w1.ownsRow w.heap.size 84 2 v1 _ _:=own_mono o1 (by first | omega | (simp;omega));have hs1:=hq.size))
    all_goals
     go_wp2
     go_ret
     refine ⟨_,rfl,own_congr hown3 ?_ ?_,hbw3⟩
     ·rw [HP2.out];simp
     ·rw [HP2.out,spanCells_append];rfl
/- cartularyref07.Path, Proof, Batch: what the reference answers. No condition. -/
def RefList (e size:Nat) (w:World) (n:Nat) (xs:List Value) (ev:Ending) (w':World):Prop :=
 ∃ v,ev = .returned (.tuple #[v,.agg #[.int .i64 0,.int .i64 0]]) ∧ w'.ownsRow w.heap.size e size v n xs ∧ Below w.heap.size w w'
theorem fault_no (w:World):Calls Tryz.prog 67 #[.bool false] w fun ev w' => ev = .returned (.agg #[.int .i64 0,.int .i64 0]) ∧ Below w.heap.size w w':=by
 go_enter Tryz.func67,Tryz.ntmps67
 go_wp2
 refine bodyPost_ret (v:=.agg #[.int .i64 0,.int .i64 0]) (by simp [results,Tryz.results67,go_sem]) rfl ⟨rfl,?_⟩
 repeat (first | exact Below.refl _ _ | (refine below_drewN ?_) | (refine Below.drew ?_) | (refine Below.alloc ?_ (by simp;try omega) _) | (refine Below.setCell ?_ (by simp;try omega) _))
structure Slot (b:Nat) (w:World):Prop where
 c0:∃ u,w.cell? ⟨b,0,none⟩ = some u
 c1:∃ u,w.cell? ⟨b,1,none⟩ = some u
 f0:w.frozen? ⟨b,0,none⟩ = false
 f1:w.frozen? ⟨b,1,none⟩ = false
theorem Slot.new (w:World) (u v:Value) (t:TypeId):Slot w.heap.size (w.alloc (.cells #[u,v] t)) :=
 ⟨⟨_,cell_new _ _ 0 _ rfl⟩,⟨_,cell_new _ _ 1 _ rfl⟩,by simp,by simp⟩
theorem Slot.below {b B:Nat} {w w':World} (h:Slot b w) (hb:Below B w w') (hB:b < B):Slot b w':=by
 obtain ⟨⟨u,a⟩,⟨v,c⟩,d,e⟩:=h
 exact ⟨⟨u,cell_below hb a hB⟩,⟨v,cell_below hb c hB⟩,frozen_below hb d hB,frozen_below hb e hB⟩
theorem Slot.k0 {b:Nat} {w:World} (h:Slot b w) (u v:Value):((w.setCell ⟨b,0,none⟩ u).setCell ⟨b,1,none⟩ v).cell? ⟨b,0,none⟩ = some u:=by
 obtain ⟨⟨x,a⟩,_,_,_⟩:=h
 rw [World.cell?_setCell_other _ _ _ _ (by intro e;cases e)];exact World.cell?_setCell_same' _ _ _ (by rw [a];rfl)
theorem Slot.k1 {b:Nat} {w:World} (h:Slot b w) (u v:Value):((w.setCell ⟨b,0,none⟩ u).setCell ⟨b,1,none⟩ v).cell? ⟨b,1,none⟩ = some v:=by
 obtain ⟨_,⟨x,a⟩,_,_⟩:=h
 exact World.cell?_setCell_same' _ _ _ (by rw [World.cell?_setCell_other _ _ _ _ (by intro e;cases e),a];rfl)
theorem refProof_ok (old sz:Int) (w:World) (h0:0 < old) (h1:old ≤ sz) (h2:sz ≤ 9223372036854775808) :
 Calls Tryz.prog 46 #[.int .u64 old,.int .u64 sz] w (RefList 84 2 w (proofL 64 (0+old) 0 sz).length (spanCells (proofL 64 (0+old) 0 sz))):=by
 have hp:Hid (sz - 0 ≤ pow2 64):=hid (by rw [pow2_64];omega)
 have hS:=hid (Slot.new w (.int .i64 0) (.int .i64 0) 52)
 have hz:(old == 0) = false:=by simp;omega
 go_enter Tryz.func46,Tryz.ntmps46
 go_wp2_with fail
 refine (refsub 64 0 sz old true _ (Nat.le_refl _) (by omega) h0 (by omega) h2 hp.out (by simp)).mono ?_
 rintro ev w1 ⟨v1,rfl,o1,b1⟩
 have hS1:=hid (hS.out.below b1 (by simp))
 go_wp2_with fail
 refine (fault_no _).mono ?_
 rintro ev w2 ⟨rfl,b2⟩
 have hs1:=b1.size
 have hS2:=hS1.out.below b2 (by simp at hs1;omega)
 have o2:=own_below o1 b2 (Nat.le_refl _)
 have hSx:=hS2
 obtain ⟨⟨u0,c0⟩,⟨u1,c1⟩,f0,f1⟩:=hSx
 have hk0:=hS2.k0 (.int .i64 0) (.int .i64 0)
 have hk1:=hS2.k1 (.int .i64 0) (.int .i64 0)
 have HB:Hid (Below w.heap.size w w2):=hid (((Below.refl _ w).alloc (Nat.le_refl _) _).trans ((b1.mono (by simp)).trans (b2.mono (by simp at hs1;omega))))
 have HO:Hid (((w2.setCell ⟨w.heap.size,0,none⟩ (.int .i64 0)).setCell ⟨w.heap.size,1,none⟩ (.int .i64 0)).ownsRow w.heap.size 84 2 v1 (proofL 64 (0+old) 0 sz).length (spanCells (proofL 64 (0+old) 0 sz))):=hid (by
  have hlow:some w.heap.size ≠ v1.ownBlock:=own_ne_low o2 (by simp)
  exact own_mono (own_setCell (own_setCell o2 hlow _) hlow _) (by simp))
 clear b1 b2 hS2 o1 o2 hs1
 go_wp2
 refine bodyPost_ret (v:=.tuple #[v1,.agg #[.int .i64 0,.int .i64 0]]) (by simp [results,Tryz.results46,go_sem,hk0,hk1]) rfl ⟨v1,rfl,HO.out,?_⟩
 exact Below.setCell (Below.setCell HB.out (by simp) _) (by simp) _
end Go.Proofs.YtpdkpdpkggepcaaGreatDoor
