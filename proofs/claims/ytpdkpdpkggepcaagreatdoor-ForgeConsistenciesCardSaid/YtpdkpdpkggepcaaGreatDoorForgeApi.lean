import Derived.Test.YtpdkpdpkggepcaaGreatDoorMem
import Derived.Test.YtpdkpdpkggepcaaGreatDoorNaiveHashes
import Derived.Test.YtpdkpdpkggepcaaGreatDoorTexts
import Derived.Test.YtpdkpdpkggepcaaGreatDoorConsPlain
import Derived.Test.YtpdkpdpkggepcaaGreatDoorVerifyIncl
import Derived.Test.YtpdkpdpkggepcaaGreatDoorNaiveLog
import Derived.Test.YtpdkpdpkggepcaaGreatDoorSameHashes
import Derived.Test.YtpdkpdpkggepcaaGreatDoorTwinHash
import Derived.Deep.Cut
import Derived.BigRegion
import Derived.OwnWalk
import Derived.Deep.DeepCutAuto
import Derived.Test.YtpdkpdpkggepcaaGreatDoorVerifyCons
import Derived.Test.YtpdkpdpkggepcaaGreatDoorBatchPath
import Derived.MapKept
/- cartularylaw08.grown: a log of texts; those too long are refused. Condition: the package-level variables read as listed. -/
namespace Go.Proofs.YtpdkpdpkggepcaaGreatDoor
open Go.ChangeShapes Go.WideShapes Go.ChangeAt Go.RowKit
set_option maxRecDepth 100000
set_option maxHeartbeats 8000000
open Lib (hid)
set_option linter.unusedVariables false
def keptL (D:List ByteArray):List ByteArray:=D.filter fun s => decide (s.size ≤ 65536)
theorem keptL_hit {D:List ByteArray} {k:Nat} {s:ByteArray} (h:D[k]? = some s) (hs:s.size ≤ 65536):keptL (D.take (k+1)) = keptL (D.take k) ++ [s]:=by
 unfold keptL;rw [List.take_add_one,h];simp [hs]
theorem keptL_miss {D:List ByteArray} {k:Nat} {s:ByteArray} (h:D[k]? = some s) (hs:¬ s.size ≤ 65536):keptL (D.take (k+1)) = keptL (D.take k):=by
 unfold keptL;rw [List.take_add_one,h];simp [hs]
theorem keptL_len (D:List ByteArray) (k:Nat):(keptL (D.take k)).length ≤ k:=Nat.le_trans (List.length_filter_le _ _) (by simp;omega)
theorem Coll.below_of {Bl:Nat} {w w':World} {v v':Value} (h:Coll Bl w w' v v') {B:Nat} (hB:B ≤ Bl) (hs:B ≤ w.heap.size) (hv:∀ k,v.ownBlock = some k → B ≤ k):Below B w w' :=
 ⟨h.os,h.tape,h.output,h.size,fun k hk => h.same k (by omega) (by omega) (fun e => by have:=hv k e.symm;omega)⟩
theorem LogAt.own_ge {base b:Nat} {v:Value} {L:List ByteArray} {w:World} (h:LogAt base b v L w):∀ k,v.ownBlock = some k → base ≤ k:=fun k hk => (h.2.2.2.1.lt k hk).1
attribute [irreducible] keptL
/- Plain facts: how many stretches a path and a proof have; what a log's consistency proof says. No program in sight. -/
theorem blen_mono {a b:Nat} (h:a ≤ b):blen a ≤ blen b:=blen_le (Nat.lt_of_le_of_lt h (blen_hi b))
theorem lgI_mono {a b:Int} (h:a ≤ b):lgI a ≤ lgI b:=by
 have:=blen_mono (show a.toNat - 1 ≤ b.toNat - 1 by omega)
 unfold lgI lg;omega
theorem pathL_log:∀ (f:Nat) (ix b e:Int),b < e → e - b ≤ pow2 f → ((pathL f ix b e).length:Int) ≤ lgI (e - b)
 | 0,ix,b,e,h,hp => by
  have:(0:Int) ≤ lgI (e - b):=by unfold lgI;omega
  simpa [pathL] using this
 | f+1,ix,b,e,h,hp => by
  have h0:(0:Int) ≤ lgI (e - b):=by unfold lgI;omega
  rw [pathL]
  by_cases h2:e - b < 2
  ·rw [if_pos h2];simpa using h0
  ·have hk:=blwI_bd (n:=e - b) (by omega)
   have hkf:=blwI_le_pow (n:=e - b) (f:=f) (by omega) hp
   have hl:=lgI_blwI (n:=e - b) (by omega)
   rw [if_neg h2]
   by_cases h3:ix < b+blwI (e - b)
   ·have ih:=pathL_log f ix b (b+blwI (e - b)) (by omega) (by omega)
    rw [show b+blwI (e - b) - b = blwI (e - b) by omega] at ih
    rw [if_pos h3,List.length_append];simp;omega
   ·have ih:=pathL_log f ix (b+blwI (e - b)) e (by omega) (by omega)
    have hm:=lgI_mono (show e - (b+blwI (e - b)) ≤ blwI (e - b) by omega)
    rw [if_neg h3,List.length_append];simp;omega
theorem proofL_log:∀ (f:Nat) (old b e:Int),b < old → old ≤ e → e - b ≤ pow2 f → ((proofL f old b e).length:Int) ≤ lgI (e - b)+1
 | 0,old,b,e,h,h1,hp => by
  have:(0:Int) ≤ lgI (e - b):=by unfold lgI;omega
  unfold proofL;split <;> (try split) <;> simp <;> omega
 | f+1,old,b,e,h,h1,hp => by
  have h0:(0:Int) ≤ lgI (e - b):=by unfold lgI;omega
  rw [proofL]
  by_cases h2:e = old
  ·rw [if_pos h2];split <;> simp <;> omega
  ·have hk:=blwI_bd (n:=e - b) (by omega)
   have hkf:=blwI_le_pow (n:=e - b) (f:=f) (by omega) hp
   have hl:=lgI_blwI (n:=e - b) (by omega)
   rw [if_neg h2]
   by_cases h3:old ≤ b+blwI (e - b)
   ·have ih:=proofL_log f old b (b+blwI (e - b)) h (by omega) (by omega)
    rw [show b+blwI (e - b) - b = blwI (e - b) by omega] at ih
    rw [if_pos h3,List.length_append];simp;omega
   ·have ih:=proofL_log f old (b+blwI (e - b)) e (by omega) h1 (by omega)
    have hm:=lgI_mono (show e - (b+blwI (e - b)) ≤ blwI (e - b) by omega)
    rw [if_neg h3,List.length_append];simp;omega
theorem logs_cons (L:List ByteArray) (M N:Nat) (hN9:N ≤ 1048576) (h0:0 < M) (h1:M < N) :
 ∃ (k n:Nat) (h:List UInt8) (rest:List (List UInt8)),M = 2 ^ k * (n+1) ∧ n % 2 = 0 ∧ treesB L (proofL 64 M 0 N) = (if M = 2 ^ k then [] else [h]) ++ rest ∧ (M = 2 ^ k → h = treeB L 0 M) ∧ h.length = 32 ∧ CSays nodeH n ((N - 1) / 2 ^ k) h h rest (treeB L 0 M) (treeB L 0 N):=by
 obtain ⟨k,n,rest,i1,i2,i3,i4⟩:=cons_bot nodeH 64 (leafG L) M 0 N (by omega) (by omega) (by omega) (by rw [pow2_64];omega) (by omega)
 have hP:=Nat.two_pow_pos k
 have hM:M = 2 ^ k * (n+1):=by have:=i1;omega
 have hPM:2 ^ k ≤ M:=by rw [hM];exact Nat.le_mul_of_pos_right _ (by omega)
 have hb:∀ b e:Int,b < e → treeB L b e = treeT nodeH (leafG L) b e:=fun b e h => by unfold treeB;rw [if_neg (by omega)]
 have hp:=proof_spansIn (M:Int) N (by omega) (by omega) (by omega)
 have hnl:2 ^ k < M ∨ 2 ^ k = M:=by omega
 obtain ⟨p,hp2⟩:∃ p,2 ^ k = p:=⟨_,rfl⟩
 rw [hp2] at i3 i4 hP hPM hnl hM
 have hr:∀ s ∈ rest,s.1 < s.2:=fun s hs => (hp s (by rw [i3];simp [hs])).2.1
 refine ⟨k,n,treeB L ((M:Int) - p) M,treesB L rest,by rw [hp2];exact hM,i2,?_,?_,treeB_len _ _ _,?_⟩
 ·rw [i3,hp2]
  unfold treesB
  by_cases e:M = p
  ·rw [if_neg (by omega),if_pos e];rfl
  ·rw [if_pos (by omega),if_neg e];rfl
 ·intro e
  rw [hp2] at e
  rw [← e];congr 1;omega
 ·rw [hp2]
  refine ⟨64,?_,?_⟩
  ·have:=Nat.div_le_self (N - 1) p;omega
  ·have e1:((N:Int) - 0 - 1).toNat = N - 1:=by omega
   rw [e1] at i4
   rw [hb _ _ (by omega),hb 0 M (by omega),hb 0 N (by omega)]
   have e2:(treesB L rest).map sib = rest.map fun s => sib (treeT nodeH (leafG L) s.1 s.2):=by
    unfold treesB
    rw [List.map_map]
    refine List.map_congr_left fun s hs => ?_
    show sib (treeB L s.1 s.2) = _
    rw [hb _ _ (hr s hs)]
   rw [e2]
   exact i4
/- cartularyref08.Log.Append. No condition. -/
theorem plain4 (w:World):Calls Tryz.prog 47 #[.int .i64 4] w fun ev w' => ev = .returned (.agg #[.int .i64 4,.int .i64 (-1)]) ∧ Below w.heap.size w w':=by
 go_enter Tryz.func47,Tryz.ntmps47
 go_wp2
 refine bodyPost_ret (v:=.agg #[.int .i64 4,.int .i64 (-1)]) (by simp [results,Tryz.results47,go_sem]) rfl ⟨rfl,?_⟩
 repeat (first | exact Below.refl _ _ | (refine below_drewN ?_) | (refine Below.drew ?_) | (refine Below.alloc ?_ (by simp;try omega) _) | (refine Below.setCell ?_ (by simp;try omega) _))
theorem results_tmp_row2 {P:Program} {fn:Func} {p u:Tmp} {ty:TypeId} (h:fn.results = #[.tmp u,.cell p ty]) (tmps:Array Value) (w:World) (g:Nat) (t:TypeId) (cs:Array Value) (fr:Nat × Nat) (d:TypeDesc)
 (hp:tmps.getD p undef = .pointer (some ⟨g,0,none⟩)) (hg:w.heap[g]? = some (.cells cs t fr))
 (hu:P.underlying ty = some d) (hd:(match d with | .struct _ | .array _ _ => true | _ => false) = true) (hi:(P.info? ty).map (·.size) = some cs.size) (x:Value) (hx:tmps.getD u undef = x) :
 (results fn tmps).run P w = .ok (.tuple #[x,.agg cs]) w:=by
 subst hx
 rw [Array.getD_eq_getD_getElem?] at hp
 simp only [results,h]
 simp [hp,asAddr,run_loadVar_row w g t ty cs fr d hg hu hd hi,Result.andThen]
def RLogAt (base b:Nat) (v:Value) (L:List ByteArray) (w:World):Prop :=
 LogOk L ∧ base ≤ b ∧ w.heap[b]? = some (.cells #[v] 46 (0,0)) ∧ w.ownsRow base 9 1 v L.length (L.map Value.string) ∧ v.ownBlock ≠ some b
theorem RLogAt.lt {base b:Nat} {v:Value} {L:List ByteArray} {w:World} (h:RLogAt base b v L w):b < w.heap.size:=(Array.getElem?_eq_some_iff.1 h.2.2.1).1
theorem RLogAt.kept {base b:Nat} {v:Value} {L:List ByteArray} {w w':World} (h:RLogAt base b v L w) (h1:w'.heap[b]? = w.heap[b]?) (h2:∀ g,v.ownBlock = some g → w'.heap[g]? = w.heap[g]?):RLogAt base b v L w' :=
 ⟨h.1,h.2.1,h1.trans h.2.2.1,own_kept h.2.2.2.1 h2,h.2.2.2.2⟩
theorem RLogAt.below {base b:Nat} {v:Value} {L:List ByteArray} {w w':World} (h:RLogAt base b v L w) (hb:Below w.heap.size w w'):RLogAt base b v L w' :=
 h.kept (hb.block b h.lt) (fun g hg => hb.block g (h.2.2.2.1.lt g hg).2)
theorem RLogAt.c0 {base b:Nat} {v:Value} {L:List ByteArray} {w:World} (h:RLogAt base b v L w):w.cell? ⟨b,0,none⟩ = some v:=by rw [cell_of_row w b 0 _ 46 (0,0) h.2.2.1];rfl
theorem RLogAt.f0 {base b:Nat} {v:Value} {L:List ByteArray} {w:World} (h:RLogAt base b v L w):w.frozen? ⟨b,0,none⟩ = false:=frozen_of_row w b 0 _ 46 h.2.2.1
theorem Coll.setRow {b:Nat} {w w':World} {v v':Value} (h:Coll b w w' v v') {k:Nat} (hk:w.heap.size ≤ k) (x:Array Value):Coll b w (w'.setRow k x) v v':=by
 have h0:=below_setRow (B:=0) (Below.refl 0 w') k x (by omega)
 exact ⟨h0.os.trans h.os,h0.tape.trans h.tape,h0.output.trans h.output,by rw [setRow_size];exact h.size,fun j hj h1 h2 => by rw [setRow_other _ _ _ _ (by omega)];exact h.same j hj h1 h2,h.blk⟩
theorem own_setRow {w:World} {base:Nat} {e:TypeId} {size:Nat} {v:Value} {n:Nat} {xs:List Value} (h:w.ownsRow base e size v n xs) {b:Nat} (hb:some b ≠ v.ownBlock) (u:Array Value):(w.setRow b u).ownsRow base e size v n xs :=
 own_kept h (fun g hg => setRow_other _ _ _ _ (fun e => hb (by rw [hg,e])))
theorem rappend_bad (base b:Nat) (v:Value) (L:List ByteArray) (s:ByteArray) (w:World) (h:RLogAt base b v L w) (hbad:65536 < s.size) :
 Calls Tryz.prog 17 #[.pointer (some ⟨b,0,none⟩),.string s] w fun ev w' => ev = .returned (.tuple #[.int .u64 0,.agg #[.int .i64 4,.int .i64 (-1)]]) ∧ Below w.heap.size w w':=by
 have R0:Hid ((w.alloc (.cells #[.int .i64 0,.int .i64 0] 52)).heap[w.heap.size]? = some (.cells #[.int .i64 0,.int .i64 0] 52 (0,0))):=hid (heap_at _ _ _ rfl)
 have HB0:Hid (Below w.heap.size w (w.alloc (.cells #[.int .i64 0,.int .i64 0] 52))):=hid ((Below.refl _ _).alloc (Nat.le_refl _) _)
 obtain ⟨wv,hwv⟩:∃ x,w.alloc (.cells #[.int .i64 0,.int .i64 0] 52) = x:=⟨_,rfl⟩
 rw [hwv] at R0 HB0
 have HWV:=hid hwv
 have HSV:Hid (w.heap.size < wv.heap.size):=hid (by rw [← hwv];simp)
 have hs:(65536:Int) < (s.size:Int):=by omega
 clear h hbad hwv
 go_enter Tryz.func17,Tryz.ntmps17
 go_upto_region 1 with fail
 rw [HWV.out]
 go_wp2_with fail
 refine (plain4 wv).mono ?_
 rintro ev w1 ⟨rfl,b1⟩
 have R1:Hid (w1.heap[w.heap.size]? = some (.cells #[.int .i64 0,.int .i64 0] 52 (0,0))):=hid ((b1.block _ HSV.out).trans R0.out)
 have HB1:Hid (Below w.heap.size w w1):=hid (HB0.out.trans (b1.mono (by have:=HSV.out;omega)))
 clear b1
 go_wp2_with (refine wpList_store_row rfl 52 _ _ rfl w.heap.size #[.int .i64 4,.int .i64 (-1)] rfl rfl 52 _ R1.out (by kernel_rfl) rfl (by simp [Value.oneCell']) ?_)
 refine bodyPost_ret (v:=.tuple #[.int .u64 0,.agg #[.int .i64 4,.int .i64 (-1)]]) (results_tmp_row2 rfl _ _ w.heap.size 52 #[.int .i64 4,.int .i64 (-1)] (0,0) _ rfl (setRow_heap _ _ _ _ _ _ R1.out) Tryz.underlying52 rfl (by kernel_rfl) _ rfl) rfl ⟨rfl,?_⟩
 exact below_setRow HB1.out _ _ (Nat.le_refl _)
theorem rappend_ok (base b:Nat) (v:Value) (L:List ByteArray) (s:ByteArray) (w:World) (h:RLogAt base b v L w) (h1:s.size ≤ 65536) (h2:L.length < 1048576) (hbw:base ≤ w.heap.size) :
 Calls Tryz.prog 17 #[.pointer (some ⟨b,0,none⟩),.string s] w fun ev w' => ev = .returned (.tuple #[.int .u64 L.length,.agg #[.int .i64 0,.int .i64 0]]) ∧ ∃ v',RLogAt base b v' (L ++ [s]) w' ∧ Coll b w w' v v':=by
 obtain ⟨i0,hi,hz0,hz1,hz2⟩:=info_parts info_str
 obtain ⟨A,cap,rfl,hcap⟩:=own_shape h.2.2.2.1
 have R0:Hid ((w.alloc (.cells #[.int .i64 0,.int .i64 0] 52)).heap[w.heap.size]? = some (.cells #[.int .i64 0,.int .i64 0] 52 (0,0))):=hid (heap_at _ _ _ rfl)
 have hB0:Below w.heap.size w (w.alloc (.cells #[.int .i64 0,.int .i64 0] 52)):=(Below.refl _ _).alloc (Nat.le_refl _) _
 have H0:=hid h
 have hlow:some w.heap.size ≠ (Value.slice A L.length cap).ownBlock:=own_ne_new h.2.2.2.1 (Nat.le_refl _)
 have h':=h.below hB0
 obtain ⟨wv,hwv⟩:∃ x,w.alloc (.cells #[.int .i64 0,.int .i64 0] 52) = x:=⟨_,rfl⟩
 rw [hwv] at R0 hB0 h'
 have HWV:=hid hwv
 have hSV:w.heap.size < wv.heap.size:=by rw [← hwv];simp
 have hbv:base ≤ wv.heap.size:=by omega
 have c0:=h'.c0
 have f0:=h'.f0
 have hown:=h'.2.2.2.1
 have hnb:some b ≠ (Value.slice A L.length cap).ownBlock:=fun e => h.2.2.2.2 e.symm
 have hblt:=h'.lt
 have hbw2:b < w.heap.size:=h.lt
 have H:=hid h'
 have HB0:=hid hB0
 have HS:=hid (And.intro h1 h2)
 obtain ⟨n,hn⟩:∃ n,L.length = n:=⟨_,rfl⟩
 have hd1:decide ((65536:Int) < (s.size:Int)) = false:=by simp;omega
 have hd2:decide ((1048576:Int) ≤ (n:Int)) = false:=by simp;omega
 have hd3:decide ((n:Int) ≥ (1048576:Int)) = false:=by simp;omega
 rw [hn] at c0 hcap hown hnb h2 hlow
 have HN:=hid hn
 have hwn:IntKind.u64.wrap (n:Int) = n:=IntWalk.u64_in _ (by omega)
 rw [hn]
 have hn9:n < 1048576:=h2
 have HLOW:=hid hlow
 clear h h' hn h1 h2 hwv hB0 hlow
 go_enter Tryz.func17,Tryz.ntmps17
 go_upto_region 1 with fail
 rw [HWV.out]
 go_wp2_with (first
  | (at_builtin;refine wpList_append_lies _ rfl _ _ 22 rfl base 9 i0 (.string ⟨#[]⟩) 1 16 Tryz.underlying22 hi hz0 hz1 hz2 rfl (by decide) (.slice A n cap) _ _ rfl (hown.alloc _) ⟨wv.heap.size,0,none⟩ 1 1 _ rfl rfl (news_new _ _) (by simp [Value.oneCell']) (by decide) (by unfold maxLen;omega) (by omega) (by simp;omega) _ rfl ?_;intro g3 cap3 w3 hown3 hgrow3 hat3 hlt3;have hl3:=hgrow3.cell (cell_alloc c0 _) hnb;have hf3:=(hgrow3.frozen_far ⟨b,0,none⟩ (by simp;omega) hnb).trans (frozen_alloc f0 hblt _);have HX:=hid (And.intro hown3 (And.intro hgrow3 hat3));have hc3:=(show n+1 ≤ cap3 by (obtain ⟨_,_,e,hc⟩:=own_shape hown3;cases e;exact hc));have R3:Hid (w3.heap[w.heap.size]? = some (.cells #[.int .i64 0,.int .i64 0] 52 (0,0))):=hid ((hgrow3.block w.heap.size (by simp;omega) HLOW.out).trans ((((Below.refl _ wv).alloc (Nat.le_refl _) _).block w.heap.size hSV).trans R0.out));clear hown3 hgrow3 hat3)
  | (refine wpList_store_row rfl 52 _ _ rfl w.heap.size #[.int .i64 0,.int .i64 0] rfl rfl 52 _ ((Below.heap_setCell w3 ⟨b,0,none⟩ _ w.heap.size (Nat.ne_of_gt hbw2)).trans R3.out) (by kernel_rfl) rfl (by simp [Value.oneCell']) ?_))
 have RS:(w3.setCell ⟨b,0,none⟩ (.slice (some ⟨g3,0,none⟩) (n+1) cap3)).heap[w.heap.size]? = some (.cells #[.int .i64 0,.int .i64 0] 52 (0,0)):=(Below.heap_setCell w3 ⟨b,0,none⟩ _ w.heap.size (Nat.ne_of_gt hbw2)).trans R3.out
 refine bodyPost_ret (v:=.tuple #[.int .u64 n,.agg #[.int .i64 0,.int .i64 0]]) (results_tmp_row2 rfl _ _ w.heap.size 52 #[.int .i64 0,.int .i64 0] (0,0) _ rfl (setRow_heap _ _ _ _ _ _ RS) Tryz.underlying52 rfl (by kernel_rfl) _ (by first | rfl | (simp;omega))) rfl ⟨rfl,.slice (some ⟨g3,0,none⟩) (n+1) cap3,⟨H.out.1.snoc (by have:=HN.out;omega) HS.out.1,H.out.2.1,?_,?_,?_⟩,?_⟩
 ·have e1:w3.heap[b]? = some (.cells #[.slice A n cap] 46 (0,0)):=by
   rw [HX.out.2.1.block b (by simp;omega) hnb,((Below.refl _ wv).alloc (Nat.le_refl _) _).block b hblt,H.out.2.2.1,HN.out]
  rw [setRow_other _ _ _ _ (by omega)]
  exact heap_setCell_same _ _ _ _ _ _ e1
 ·refine own_congr (own_setRow (own_setCell HX.out.1 ?_ _) ?_ _) (by simp [HN.out]) (by simp)
  ·intro q
   rcases HX.out.2.2 with e | e
   ·exact hnb (by rw [q,e];first | rfl | simp [Value.ownBlock])
   ·simp [Value.ownBlock] at q;simp at e;omega
  ·intro q
   rcases HX.out.2.2 with e | e
   ·exact HLOW.out (by rw [q,e];first | rfl | simp [Value.ownBlock])
   ·simp [Value.ownBlock] at q;simp at e;omega
 ·intro q
  rcases HX.out.2.2 with e | e
  ·exact hnb (by rw [← q,e];first | rfl | simp [Value.ownBlock])
  ·simp [Value.ownBlock] at q;simp at e;omega
 ·exact (((Coll.below HB0.out).trans (Coll.below ((Below.refl _ wv).alloc (Nat.le_refl _) _))).trans (Coll.append HX.out.2.1 (by simpa using HX.out.2.2) _ rfl)).setRow (Nat.le_refl _) _
/- cartularylaw20.logs: the log of the texts that it takes. Condition: the package-level variables read as listed. -/
structure Sep (b b2:Nat) (v v2:Value):Prop where
 bb:b ≠ b2
 v2b:some b ≠ v2.ownBlock
 vb2:some b2 ≠ v.ownBlock
 vv:∀ g,v.ownBlock = some g → v2.ownBlock ≠ some g
theorem Sep.l {b b2:Nat} {v v2 v':Value} {w w':World} (h:Sep b b2 v v2) (c:Coll b w w' v v') (hb2:b2 < w.heap.size) (hv2:∀ g,v2.ownBlock = some g → g < w.heap.size):Sep b b2 v' v2 :=
 ⟨h.bb,h.v2b,fun e => (c.blk _ e.symm).elim (fun q => h.vb2 q.symm) (fun q => by omega),fun g hg e => (c.blk g hg).elim (fun q => h.vv g q e) (fun q => by have:=hv2 g e;omega)⟩
theorem Sep.r {b b2:Nat} {v v2 v2':Value} {w w':World} (h:Sep b b2 v v2) (c:Coll b2 w w' v2 v2') (hb:b < w.heap.size) (hv:∀ g,v.ownBlock = some g → g < w.heap.size):Sep b b2 v v2' :=
 ⟨h.bb,fun e => (c.blk _ e.symm).elim (fun q => h.v2b q.symm) (fun q => by omega),h.vb2,fun g hg e => (c.blk g e).elim (fun q => h.vv g hg q) (fun q => by have:=hv g hg;omega)⟩
theorem RLogAt.coll {base b b2:Nat} {v v' v2:Value} {L:List ByteArray} {w w':World} (h:RLogAt base b2 v2 L w) (c:Coll b w w' v v') (s:Sep b b2 v v2):RLogAt base b2 v2 L w' :=
 h.kept (c.same b2 h.lt (fun e => s.bb e.symm) s.vb2) (fun g hg => c.same g (h.2.2.2.1.lt g hg).2 (fun e => s.v2b (by rw [hg,e])) (fun e => s.vv g e.symm hg))
theorem LogAt.coll {base b b2:Nat} {v v2 v2':Value} {L:List ByteArray} {w w':World} (h:LogAt base b v L w) (c:Coll b2 w w' v2 v2') (s:Sep b b2 v v2):LogAt base b v L w' :=
 h.kept (c.same b h.lt s.bb s.v2b) (fun g hg => c.same g (h.2.2.2.1.lt g hg).2 (fun e => s.vb2 (by rw [hg,e])) (fun e => s.vv g hg e.symm))
theorem logs20_both (a:Nat → Addr) (B:Nat) (D:List ByteArray) (A:Option Addr) (n c:Nat) (w:World) (hE:Env B a w) (h:SIn w A n c D) (hn:n ≤ 1048576) :
 Calls Tryz.prog 7 #[.slice A n c] w fun ev w' => ∃ b v b2 v2,ev = .returned (.tuple #[.pointer (some ⟨b,0,none⟩),.pointer (some ⟨b2,0,none⟩),.bool true]) ∧ LogAt w.heap.size b v (keptL D) w' ∧ RLogAt w.heap.size b2 v2 (keptL D) w' ∧ Below w.heap.size w w':=by
 have HE:=hid hE
 have HD:=hid h
 obtain ⟨vz,evz,HVZ,Zvz,Ivz,Ovz⟩:=fault_of 0
 obtain ⟨vf,evf,HVF,Zvf,Ivf,Ovf⟩:=fault_of 4
 have SAME0:Hid (∀ w,Env B a w → Calls Tryz.prog 18 #[.nilIface,.agg vz] w fun ev w' => ev = .returned (.bool true) ∧ Below w.heap.size w w'):=hid (fun w h => by rw [← evz];exact same_fault a B 0 w h.laid (by omega))
 have SAME4:Hid (∀ w,Env B a w → Calls Tryz.prog 18 #[.iface 203 (.pointer (some (a 4))),.agg vf] w fun ev w' => ev = .returned (.bool true) ∧ Below w.heap.size w w'):=hid (fun w h => by rw [← evf];exact same_fault a B 4 w h.laid (by omega))
 clear hE h evz evf
 go_enter Tryz.func7,Tryz.ntmps7
 go_wp2_with fail
 refine (new_log w.heap.size _ (Nat.le_refl _)).mono ?_
 rintro e w1 ⟨rfl,hL1,hB1⟩
 have hb:w.heap.size < w1.heap.size:=hL1.lt
 have HR1:Hid (RLogAt w.heap.size w1.heap.size (.slice none 0 0) [] (w1.alloc (.cells #[.slice none 0 0] 46))):=hid ⟨LogOk.nil,by omega,heap_at _ _ _ rfl,World.ownsRow_nil _ _ _ _,by simp [Value.ownBlock]⟩
 have HL1:Hid (LogAt w.heap.size w.heap.size (.slice none 0 0) [] (w1.alloc (.cells #[.slice none 0 0] 46))):=hid (hL1.alloc _)
 have HB1:Hid (Below w.heap.size w (w1.alloc (.cells #[.slice none 0 0] 46))):=hid (hB1.trans (((Below.refl _ _).alloc (Nat.le_refl _) _).mono hB1.size))
 have HP1:Hid (Sep w.heap.size w1.heap.size (.slice none 0 0) (.slice none 0 0)):=hid ⟨by omega,by simp [Value.ownBlock],by simp [Value.ownBlock],fun g hg => by simp [Value.ownBlock] at hg⟩
 obtain ⟨wm,hwm⟩:∃ z,w1.alloc (.cells #[.slice none 0 0] 46) = z:=⟨_,rfl⟩
 rw [hwm] at HR1 HL1 HB1
 have HWM:=hid hwm
 obtain ⟨b,hbb⟩:∃ b,w.heap.size = b:=⟨_,rfl⟩
 obtain ⟨b2,hb2⟩:∃ b,w1.heap.size = b:=⟨_,rfl⟩
 have HBB:=hid hbb
 rw [hb2] at HR1 HP1
 have HP1:Hid (Sep b b2 (.slice none 0 0) (.slice none 0 0)):=hid (by rw [← hbb];exact HP1.out)
 have HL1:Hid (LogAt w.heap.size b (.slice none 0 0) [] wm):=hid (by rw [← hbb];exact HL1.out)
 rw [hbb]
 clear hL1 hB1 hb hbb
 go_upto_region 3 with fail
 (try rw [HWM.out,hb2])
 clear hwm hb2
 go_wp2_with fail
 go_loopw [7] (fun i wr => ∃ (k:Nat) (v v2:Value),k ≤ n ∧ i = .int .i64 k ∧ Hid (LogAt w.heap.size b v (keptL (D.take k)) wr) ∧ Hid (RLogAt w.heap.size b2 v2 (keptL (D.take k)) wr) ∧ Hid (Sep b b2 v v2) ∧ Hid (Below w.heap.size w wr)) (fun i _ => n - (intOf i).toNat)
 case atStart => exact ⟨0,.slice none 0 0,.slice none 0 0,Nat.zero_le _,rfl,hid (by unfold keptL;simpa using HL1.out),hid (by unfold keptL;simpa using HR1.out),HP1,HB1⟩
 case round =>
  obtain ⟨k,v,v2,hk,rfl,HL,HR,HP,HB⟩:=hrel
  by_cases hlt:k < n
  ·obtain ⟨s,hs⟩:∃ s,D[k]? = some s:=⟨_,List.getElem?_eq_getElem (by have:=HD.out.1;omega)⟩
   obtain ⟨g,o,rfl,hc0,hg,hsz⟩:=HD.out.at hs
   have hc:=cell_below HB.out hc0 hg
   have i0:(0:Int) ≤ k:=by omega
   have i1:(k:Int) < n:=by omega
   have hsl:(s.size:Int) ≤ 140737488355328:=by omega
   by_cases hs6:s.size ≤ 65536
   ·have hs7:decide ((65536:Int) < (s.size:Int)) = false:=by simp;omega
    have HS:=hid (keptL_hit hs hs6)
    have HS6:=hid hs6
    have HC0:=hid (And.intro hc0 hg)
    have HKL:=hid (keptL_len D k)
    obtain ⟨K,hK⟩:∃ K,keptL (D.take k) = K:=⟨_,rfl⟩
    rw [hK] at HL HR HS HKL
    obtain ⟨q,hq⟩:∃ q,K.length = q:=⟨_,rfl⟩
    have HQ:=hid hq
    rw [hq] at HKL
    have hq9:q < 1048576:=by have:=HKL.out;omega
    clear hs hs6 hc0 hg hK hq
    go_wp2_with fail
    refine (append_ok w.heap.size b v K s wr HL.out HS6.out (by have:=HQ.out;omega) HB.out.size).mono ?_
    rintro e w2 ⟨rfl,v',hL2,hC2⟩
    rw [HQ.out]
    have hR2:=HR.out.coll hC2 HP.out
    have hP2:=HP.out.l hC2 HR.out.lt (fun g hg => (HR.out.2.2.2.1.lt g hg).2)
    have HL2:=hid hL2
    have HR2:=hid hR2
    have HP2:=hid hP2
    have HB2:=hid (HB.out.trans (hC2.below_of HL.out.2.1 HB.out.size HL.out.own_ge))
    clear hL2 hR2 hP2 hC2
    have hc2:=cell_below HB2.out HC0.out.1 HC0.out.2
    go_wp2_with fail
    refine (rappend_ok w.heap.size b2 v2 K s w2 HR2.out HS6.out (by have:=HQ.out;omega) HB2.out.size).mono ?_
    rintro e w3 ⟨rfl,v2',hR3,hC3⟩
    rw [HQ.out]
    have hL3:=HL2.out.coll hC3 HP2.out
    have hP3:=HP2.out.r hC3 HL2.out.lt (fun g hg => (HL2.out.2.2.2.1.lt g hg).2)
    have HL3:=hid hL3
    have HR3:=hid hR3
    have HP3:=hid hP3
    have HB3:=hid (HB2.out.trans (hC3.below_of HR2.out.2.1 HB2.out.size (fun k hk => (HR2.out.2.2.2.1.lt k hk).1)))
    clear hL3 hR3 hP3 hC3 hc2
    go_upto_region 8 with (refine wpList_store_row_any rfl 52 _ _ rfl w3.heap.size vz rfl (by rw [HVZ.out];rfl) 52 _ (heap_at _ _ _ rfl) Ivz.out (by rw [Zvz.out];rfl) Ovz.out ?_;intro w4 hb4 hg4 hs4;have B4:=hid hb4;have RF4:=hid hg4;clear hb4 hg4 hs4)
    have B34:Hid (Below w3.heap.size w3 w4):=hid (((Below.refl _ _).alloc (Nat.le_refl _) _).trans (B4.out.to_below (by simp) (fun k hk q => by omega)))
    have HB4:Hid (Below w.heap.size w w4):=hid (HB3.out.trans (B34.out.mono HB3.out.size))
    go_wp2_with (first | (refine wpList_load_row_g rfl 52 _ rfl w3.heap.size rfl 52 vz (0,0) _ RF4.out Tryz.underlying52 rfl Ivz.out ?_) | (go_at_call 18;refine (SAME0.out w4 (HE.out.step HB4.out)).mono ?_;rintro ev w5 ⟨rfl,b5⟩;have B5:=hid b5;clear b5))
    go_roundw
    case rel => exact ⟨k+1,v',v2',by omega,by go_num,hid (by rw [HS.out];exact (HL3.out.below B34.out).below B5.out),hid (by rw [HS.out];exact (HR3.out.below B34.out).below B5.out),HP3,hid (HB4.out.trans (B5.out.mono HB4.out.size))⟩
    case measure => simp [intOf];omega
   ·have hs7:(65536:Int) < (s.size:Int):=by omega
    have HS:=hid (keptL_miss hs hs6)
    have HS6:=hid hs6
    have HC0:=hid (And.intro hc0 hg)
    have HKL:=hid (keptL_len D k)
    obtain ⟨K,hK⟩:∃ K,keptL (D.take k) = K:=⟨_,rfl⟩
    rw [hK] at HL HR HS HKL
    obtain ⟨q,hq⟩:∃ q,K.length = q:=⟨_,rfl⟩
    have HQ:=hid hq
    rw [hq] at HKL
    have hq9:q < 1048576:=by have:=HKL.out;omega
    clear hs hs6 hc0 hg hK hq
    go_wp2_with fail
    refine (append_bad a B w.heap.size b v K s wr (HE.out.step HB.out) HL.out (.inl (by have:=HS6.out;omega))).mono ?_
    rintro e w2 ⟨rfl,hb2⟩
    have hC2:Coll b wr w2 v v:=Coll.below hb2;have hL2:=HL.out.below hb2;obtain ⟨v',hv'⟩:∃ x,v = x:=⟨_,rfl⟩;rw [hv'] at hL2;have hC2:Coll b wr w2 v v':=by rw [← hv'];exact hC2
    have hR2:=HR.out.coll hC2 HP.out
    have hP2:=HP.out.l hC2 HR.out.lt (fun g hg => (HR.out.2.2.2.1.lt g hg).2)
    have HL2:=hid hL2
    have HR2:=hid hR2
    have HP2:=hid hP2
    have HB2:=hid (HB.out.trans (hC2.below_of HL.out.2.1 HB.out.size HL.out.own_ge))
    clear hL2 hR2 hP2 hC2 hb2 hv'
    have hc2:=cell_below HB2.out HC0.out.1 HC0.out.2
    unfold errV
    go_wp2_with fail
    refine (rappend_bad w.heap.size b2 v2 K s w2 HR2.out (by have:=HS6.out;omega)).mono ?_
    rintro e w3 ⟨rfl,hb3⟩
    have hC3:Coll b2 w2 w3 v2 v2:=Coll.below hb3;have hR3:=HR2.out.below hb3;obtain ⟨v2',hv2'⟩:∃ x,v2 = x:=⟨_,rfl⟩;rw [hv2'] at hR3;have hC3:Coll b2 w2 w3 v2 v2':=by rw [← hv2'];exact hC3
    have hL3:=HL2.out.coll hC3 HP2.out
    have hP3:=HP2.out.r hC3 HL2.out.lt (fun g hg => (HL2.out.2.2.2.1.lt g hg).2)
    have HL3:=hid hL3
    have HR3:=hid hR3
    have HP3:=hid hP3
    have HB3:=hid (HB2.out.trans (hC3.below_of HR2.out.2.1 HB2.out.size (fun k hk => (HR2.out.2.2.2.1.lt k hk).1)))
    clear hL3 hR3 hP3 hC3 hc2 hb3 hv2'
    go_upto_region 8 with (refine wpList_store_row_any rfl 52 _ _ rfl w3.heap.size vf rfl (by rw [HVF.out];rfl) 52 _ (heap_at _ _ _ rfl) Ivf.out (by rw [Zvf.out];rfl) Ovf.out ?_;intro w4 hb4 hg4 hs4;have B4:=hid hb4;have RF4:=hid hg4;clear hb4 hg4 hs4)
    have B34:Hid (Below w3.heap.size w3 w4):=hid (((Below.refl _ _).alloc (Nat.le_refl _) _).trans (B4.out.to_below (by simp) (fun k hk q => by omega)))
    have HB4:Hid (Below w.heap.size w w4):=hid (HB3.out.trans (B34.out.mono HB3.out.size))
    go_wp2_with (first | (refine wpList_load_row_g rfl 52 _ rfl w3.heap.size rfl 52 vf (0,0) _ RF4.out Tryz.underlying52 rfl Ivf.out ?_) | (go_at_call 18;refine (SAME4.out w4 (HE.out.step HB4.out)).mono ?_;rintro ev w5 ⟨rfl,b5⟩;have B5:=hid b5;clear b5))
    go_roundw
    case rel => exact ⟨k+1,v',v2',by omega,by go_num,hid (by rw [HS.out];exact (HL3.out.below B34.out).below B5.out),hid (by rw [HS.out];exact (HR3.out.below B34.out).below B5.out),HP3,hid (HB4.out.trans (B5.out.mono HB4.out.size))⟩
    case measure => simp [intOf];omega
  ·obtain rfl:n = k:=by omega
   have HK:Hid (D.take n = D):=hid (List.take_of_length_le (by have:=HD.out.1;omega))
   rw [HK.out] at HL HR
   go_wp2
   refine bodyPost_ret (v:=.tuple #[.pointer (some ⟨b,0,none⟩),.pointer (some ⟨b2,0,none⟩),.bool true]) (by simp [results,Tryz.results7,go_sem]) rfl ⟨b,v,b2,v2,rfl,HL.out,HR.out,HB.out⟩
theorem logs20_any (a:Nat → Addr) (B:Nat) (D:List ByteArray) (A:Option Addr) (n c:Nat) (w:World) (hE:Env B a w) (h:SIn w A n c D) (hn:n ≤ 1048576) :
 Calls Tryz.prog 7 #[.slice A n c] w fun ev w' => ∃ b v b2,ev = .returned (.tuple #[.pointer (some ⟨b,0,none⟩),.pointer (some ⟨b2,0,none⟩),.bool true]) ∧ LogAt w.heap.size b v (keptL D) w' ∧ Below w.heap.size w w' :=
 (logs20_both a B D A n c w hE h hn).mono (fun _ _ ⟨b,v,b2,v2,h1,h2,_,h3⟩ => ⟨b,v,b2,h1,h2,h3⟩)
/- forge.text, forge.so: the root's text. Condition: the package-level variables read as listed. -/
theorem text_any (a b:List UInt8) (w:World) (ha:a.length = 32) (hb:b.length = 32) :
 Calls Tryz.prog 53 #[hv a,hv b] w fun ev w' => (∃ s,ev = .returned (.string s) ∧ bOf s = 1 :: (a ++ b) ∧ s.size = 65) ∧ Below w.heap.size w w':=by
 obtain ⟨va,hva⟩:∃ va,(bytesV a).toArray = va:=⟨_,rfl⟩
 obtain ⟨vb,hvb⟩:∃ vb,(bytesV b).toArray = vb:=⟨_,rfl⟩
 have hia:(Tryz.prog.info? 39).map (·.size) = some va.size:=by rw [← hva];simp only [List.size_toArray,bytesV_length,ha];kernel_rfl
 have hib:(Tryz.prog.info? 39).map (·.size) = some vb.size:=by rw [← hvb];simp only [List.size_toArray,bytesV_length,hb];kernel_rfl
 have hoa:va.all (·.oneCell') = true:=by rw [← hva];exact bytesV_all _
 have hob:vb.all (·.oneCell') = true:=by rw [← hvb];exact bytesV_all _
 obtain ⟨wb,hwb⟩:∃ wb,(w.alloc (.cells va 39)).alloc (.cells vb 39) = wb:=⟨_,rfl⟩
 have ra0:=rangeAt_new w va 39 a hva
 have rb:=rangeAt_new (w.alloc (.cells va 39)) vb 39 b hvb
 have hB1:Below (w.heap.size+1) (w.alloc (.cells va 39)) wb:=by rw [← hwb];exact (Below.refl _ _).alloc (by simp) _
 rw [hwb,World.size_alloc] at rb
 have ra:=rangeAt_below hB1 ra0 (by omega)
 have hB0:Hid (Below w.heap.size w wb):=hid (by rw [← hwb];exact ((Below.refl _ _).alloc (Nat.le_refl _) _).alloc (by simp) _)
 obtain ⟨sa,hsA⟩:∃ sa:ByteArray,⟨a.toArray⟩ = sa:=⟨_,rfl⟩
 obtain ⟨sb,hsB⟩:∃ sb:ByteArray,⟨b.toArray⟩ = sb:=⟨_,rfl⟩
 have kb1:=fun (w':World) (h:w'.rangeAt w.heap.size 0 (bytesV a)) => bytes_back w' w.heap.size 0 32 a ha h
 have kb2:=fun (w':World) (h:w'.rangeAt (w.heap.size+1) 0 (bytesV b)) => bytes_back w' (w.heap.size+1) 0 32 b hb h
 rw [hsA] at kb1
 rw [hsB] at kb2
 have z1:ByteArray.size ⟨#[1]⟩ = 1:=rfl
 have z2:sa.size = 32:=by rw [← hsA,← ha];rfl
 have z3:sb.size = 32:=by rw [← hsB,← hb];rfl
 have HSS:=hid (And.intro hsA hsB)
 have HWB:=hid hwb
 rw [show hv a = .agg va by rw [hv,hva],show hv b = .agg vb by rw [hv,hvb]]
 clear hwb hva hvb ra0 hB1 hsA hsB ha hb
 go_enter Tryz.func53,Tryz.ntmps53
 go_upto_region 1 with fail
 rw [HWB.out]
 refine wp_region_held_drew (S:=(fun w' => w'.rangeAt w.heap.size 0 (bytesV a) ∧ w'.rangeAt (w.heap.size+1) 0 (bytesV b))) (by kernel_rfl) ⟨ra,rb⟩ (fun hHeld => ?_)
 refine tk (i:=0) (v:=?v1) rfl ?y1 ?r1
 case y1 => (intro w hSw;(try dsimp only at hSw);go_simp;(try with_reducible rfl))
 try simp only [pu]
 refine tk (i:=1) (v:=?v2) rfl ?y2 ?r2
 case y2 => (intro w hSw;(try dsimp only at hSw);have k1:=kb1 w hSw.1;go_simp;(try with_reducible rfl))
 try simp only [pu]
 refine tk (i:=2) (v:=?v3) rfl ?y3 ?r3
 case y3 => (intro w hSw;(try dsimp only at hSw);go_simp;(try with_reducible rfl))
 try simp only [pu]
 refine tk (i:=3) (v:=?v4) rfl ?y4 ?r4
 case y4 => (intro w hSw;(try dsimp only at hSw);go_simp;(try with_reducible rfl))
 try simp only [pu]
 refine tk (i:=4) (v:=?v5) rfl ?y5 ?r5
 case y5 => (intro w hSw;(try dsimp only at hSw);have k2:=kb2 w hSw.2;go_simp;(try with_reducible rfl))
 try simp only [pu]
 refine tk (i:=5) (v:=?v6) rfl ?y6 ?r6
 case y6 => (intro w hSw;(try dsimp only at hSw);go_simp;(try with_reducible rfl))
 try simp only [pu]
 refine tk (i:=6) (v:=?v7) rfl ?y7 ?r7
 case y7 => (intro w hSw;(try dsimp only at hSw);go_simp;(try with_reducible rfl))
 try simp only [pu]
 refine wpAnyH_done (by kernel_rfl) ?_ _
 go_wp2
 go_ret
 refine ⟨⟨_,rfl,?_,?_⟩,hB0.out.drew⟩
 ·rw [← HSS.out.1,← HSS.out.2];simp [bOf]
 ·simp [z1,z2,z3]
theorem root_text {L:List ByteArray} {sz:Nat} (h2:2 ≤ sz) (h:sz ≤ L.length) (hL:L.length ≤ 1048576):treeB L 0 sz = nodeH (treeB L 0 (blwI sz)) (treeB L (blwI sz) sz):=by
 have hb:=blwI_bd (n:=(sz:Int)) (by omega)
 have:=treeT_node nodeH (leafG L) 0 sz (by omega) (by rw [pow2_64];omega)
 rw [Int.sub_zero,Int.zero_add] at this
 unfold treeB
 rw [if_neg (by omega),if_neg (by omega),if_neg (by omega)]
 exact this
theorem leaf_text {L:List ByteArray} {s:ByteArray} (h:L[0]? = some s):treeB L 0 1 = leafH s:=by
 unfold treeB leafG
 rw [if_neg (by omega),treeT_leaf nodeH _ _ _ (by omega)]
 rw [List.getD_eq_getElem?_getD,show (0:Int).toNat = 0 from rfl,h];rfl
def soB (L:List ByteArray) (sz:Nat):List UInt8:=if sz < 2 then 0 :: bOf (L.getD 0 ByteArray.empty) else 1 :: (treeB L 0 (blwI sz) ++ treeB L (blwI sz) sz)
theorem soB_sha {L:List ByteArray} {sz:Nat} (h0:0 < sz) (h:sz ≤ L.length) (hL:L.length ≤ 1048576):shaB (soB L sz) = treeB L 0 sz:=by
 unfold soB
 by_cases h2:sz < 2
 ·obtain rfl:sz = 1:=by omega
  obtain ⟨s,hs⟩:∃ s,L[0]? = some s:=⟨_,List.getElem?_eq_getElem (by omega)⟩
  rw [if_pos h2,List.getD_eq_getElem?_getD,hs]
  have:=leaf_text hs
  rw [show (((1:Nat):Int)) = 1 from rfl,this,leafH_eq];rfl
 ·rw [if_neg h2,root_text (by omega) h hL,nodeH_eq]
theorem soB_len {L:List ByteArray} {sz:Nat} (h0:0 < sz) (h:sz ≤ L.length) (hL:LogOk L):(soB L sz).length ≤ 70000:=by
 unfold soB
 split
 ·obtain ⟨s,hs⟩:∃ s,L[0]? = some s:=⟨_,List.getElem?_eq_getElem (by omega)⟩
  have:=hL.2 s (List.mem_of_getElem? hs)
  rw [List.getD_eq_getElem?_getD,hs,List.length_cons,Option.getD_some,bOf_length];omega
 ·rw [List.length_cons,List.length_append,treeB_len,treeB_len];omega
theorem soB_ne (L:List ByteArray) (sz:Nat):soB L sz ≠ []:=by unfold soB;split <;> simp
theorem bOf_inj {a b:ByteArray} (h:bOf a = bOf b):a = b:=by
 obtain ⟨⟨x⟩⟩:=a
 obtain ⟨⟨y⟩⟩:=b
 simp [bOf] at h
 rw [h]
theorem so_any (a:Nat → Addr) (B base b:Nat) (v:Value) (L:List ByteArray) (sz:Nat) (w:World) (hE:Env B a w) (h:LogAt base b v L w) (h0:0 < sz) (h1:sz ≤ L.length) :
 Calls Tryz.prog 24 #[.pointer (some ⟨b,0,none⟩),.int .u64 sz] w fun ev w' => (∃ s,ev = .returned (.tuple #[.string s,.string s,.bool false]) ∧ bOf s = soB L sz) ∧ Below w.heap.size w w':=by
 obtain ⟨s0,hs0⟩:∃ s,L[0]? = some s:=⟨_,List.getElem?_eq_getElem (by omega)⟩
 have HLEAF:Hid (Calls Tryz.prog 23 #[.pointer (some ⟨b,0,none⟩),.int .u64 0] w fun ev w' => ev = .returned (.tuple #[.string s0,.nilIface]) ∧ w = w'):=hid (lleaf_ok base b v L w h 0 s0 hs0)
 have hs6:s0.size ≤ 65536:=h.1.2 s0 (List.mem_of_getElem? hs0)
 have hL:=h.1.1
 have HE:=hid hE
 have HL:=hid h
 have z0:ByteArray.size ⟨#[0]⟩ = 1:=rfl
 have hz1:((sz:Int) == 0) = false:=by simp;omega
 by_cases h2:2 ≤ sz
 ·obtain ⟨k,hk⟩:∃ k:Int,blwI (sz:Int) = k:=⟨_,rfl⟩
  have hb:=blwI_bd (n:=(sz:Int)) (by omega)
  have HRT:Hid (soB L sz = 1 :: (treeB L 0 (blwI sz) ++ treeB L (blwI sz) sz)):=hid (by unfold soB;rw [if_neg (by omega)])
  have HSP:=hid (fun w => split_yes (sz:Int) w (by omega) (by omega))
  rw [hk] at hb HRT HSP
  obtain ⟨p,hp⟩:∃ p,treeB L 0 k = p:=⟨_,rfl⟩
  obtain ⟨q,hq⟩:∃ q,treeB L k sz = q:=⟨_,rfl⟩
  have lp:p.length = 32:=by rw [← hp];exact treeB_len _ _ _
  have lq:q.length = 32:=by rw [← hq];exact treeB_len _ _ _
  obtain ⟨vp,evp,Hvp,Zvp,Ivp,Ovp⟩:=row_of p lp
  obtain ⟨vq,evq,Hvq,Zvq,Ivq,Ovq⟩:=row_of q lq
  have HT1:Hid (∀ w,Env B a w → LogAt base b v L w → Calls Tryz.prog 49 #[.pointer (some ⟨b,0,none⟩),.agg #[.int .u64 0,.int .u64 k]] w fun ev w' => ev = .returned (.tuple #[.agg vp,.nilIface]) ∧ Below w.heap.size w w'):=hid (fun w e1 e2 => by
   have:=tree_ok a B base b v L 0 k w e1 e2 (by omega) (by omega) (by omega)
   rw [hp,evp] at this;exact this)
  have HT2:Hid (∀ w,Env B a w → LogAt base b v L w → Calls Tryz.prog 49 #[.pointer (some ⟨b,0,none⟩),.agg #[.int .u64 k,.int .u64 sz]] w fun ev w' => ev = .returned (.tuple #[.agg vq,.nilIface]) ∧ Below w.heap.size w w'):=hid (fun w e1 e2 => by
   have:=tree_ok a B base b v L k sz w e1 e2 (by omega) (by omega) (by omega)
   rw [hq,evq] at this;exact this)
  have HTX:Hid (∀ w,Calls Tryz.prog 53 #[.agg vp,.agg vq] w fun ev w' => (∃ s,ev = .returned (.string s) ∧ bOf s = 1 :: (p ++ q) ∧ s.size = 65) ∧ Below w.heap.size w w'):=hid (fun w => by rw [← evp,← evq];exact text_any p q w lp lq)
  rw [hp,hq] at HRT
  clear hE h hs0 h0 h1 hb hp hq lp lq evp evq h2 hk
  go_enter Tryz.func24,Tryz.ntmps24
  go_wp2_with fail
  refine HLEAF.out.mono ?_
  rintro ev w1 ⟨rfl,rfl⟩
  go_wp2_with fail
  refine (HSP.out _).mono ?_
  rintro ev w1 ⟨rfl,rfl⟩
  go_wp2_with fail
  refine (HT1.out _ HE.out HL.out).mono ?_
  rintro ev w1 ⟨rfl,b1⟩
  go_upto_region 8 with (refine wpList_store_row_any rfl 39 _ _ rfl w1.heap.size vp rfl rfl 39 _ (heap_at _ _ _ rfl) Ivp.out (by rw [Zvp.out];rfl) Ovp.out ?_;intro w2 hbN hgN hsN;have b2:Below w1.heap.size w1 w2:=((Below.refl _ w1).alloc (Nat.le_refl _) _).trans (hbN.to_below (by simp) (fun k hk q => by omega));have Rw2:=hid hgN;clear hbN hgN hsN)
  go_wp2_with fail
  refine (HT2.out _ (HE.out.step (show Gr w w2 from (by repeat (first | exact Gr.refl _ | (refine Gr.step ?_ (by assumption)) | (refine Gr.alloc ?_ _) | (refine Gr.drew ?_))))) (HL.out.below (show Gr w w2 from (by repeat (first | exact Gr.refl _ | (refine Gr.step ?_ (by assumption)) | (refine Gr.alloc ?_ _) | (refine Gr.drew ?_)))))).mono ?_
  rintro ev w3 ⟨rfl,b3⟩
  go_upto_region 9 with (refine wpList_store_row_any rfl 39 _ _ rfl w3.heap.size vq rfl rfl 39 _ (heap_at _ _ _ rfl) Ivq.out (by rw [Zvq.out];rfl) Ovq.out ?_;intro w4 hbN hgN hsN;have b4:Below w3.heap.size w3 w4:=((Below.refl _ w3).alloc (Nat.le_refl _) _).trans (hbN.to_below (by simp) (fun k hk q => by omega));have Rw4:=hid hgN;clear hbN hgN hsN)
  have RP:Hid (w4.heap[w1.heap.size]? = some (.cells vp 39 (0,0))):=hid ((Below.block (show Gr w2 w4 from (by repeat (first | exact Gr.refl _ | (refine Gr.step ?_ (by assumption)) | (refine Gr.alloc ?_ _) | (refine Gr.drew ?_)))) _ (Array.getElem?_eq_some_iff.1 Rw2.out).1).trans Rw2.out)
  go_wp2_with (first
   | (refine wpList_load_row rfl 39 _ rfl w1.heap.size rfl 39 vp (0,0) _ RP.out Tryz.underlying39 rfl Ivp.out ?_)
   | (refine wpList_load_row rfl 39 _ rfl w3.heap.size rfl 39 vq (0,0) _ Rw4.out Tryz.underlying39 rfl Ivq.out ?_))
  refine (HTX.out w4).mono ?_
  rintro ev w5 ⟨⟨s,rfl,hs,hss⟩,b5⟩
  have HSS:=hid (And.intro hs hss)
  clear hs hss
  go_wp2
  go_ret3
  exact ⟨⟨s,rfl,by rw [HSS.out.1,HRT.out]⟩,show Gr w w5 from (by repeat (first | exact Gr.refl _ | (refine Gr.step ?_ (by assumption)) | (refine Gr.alloc ?_ _) | (refine Gr.drew ?_)))⟩
 ·obtain rfl:1 = sz:=by omega
  have HLT:Hid (soB L 1 = 0 :: bOf s0):=hid (by unfold soB;rw [if_pos (by omega),List.getD_eq_getElem?_getD,hs0];rfl)
  have HSP:=hid (fun w => split_no (((1:Nat):Int)) w (by omega) (by omega) (.inl (by omega)))
  clear hE h hs0 h0 h1 h2
  go_enter Tryz.func24,Tryz.ntmps24
  go_wp2_with fail
  refine HLEAF.out.mono ?_
  rintro ev w1 ⟨rfl,rfl⟩
  go_wp2_with fail
  refine (HSP.out _).mono ?_
  rintro ev w1 ⟨rfl,rfl⟩
  go_wp2
  go_ret3
  refine ⟨⟨_,rfl,?_⟩,Below.refl _ _⟩
  rw [HLT.out];simp [bOf]
/- What a log's own proofs say, for any beginning of it. Condition: the package-level variables read as listed. -/
theorem treesB_take (L:List ByteArray) (n:Nat) (l:List (Int × Int)) (hl:SpansIn l n) (hn:n ≤ L.length):treesB (L.take n) l = treesB L l:=by
 unfold treesB
 refine List.map_congr_left fun s hs => ?_
 have:=hl s hs
 have h:=treeB_more (L.take n) (L.drop n) s.1 s.2 this.1 (by omega) (by rw [List.length_take];omega)
 rw [List.take_append_drop] at h
 exact h.symm
theorem treeB_take (L:List ByteArray) (n:Nat) (b e:Int) (h0:0 ≤ b) (h1:b ≤ e) (h2:e ≤ (n:Int)) (hn:n ≤ L.length):treeB (L.take n) b e = treeB L b e:=by
 have h:=treeB_more (L.take n) (L.drop n) b e h0 h1 (by rw [List.length_take];omega)
 rw [List.take_append_drop] at h
 exact h.symm
theorem leavesB_take (L:List ByteArray) (n i t:Nat) (hit:i ≤ t) (htn:t ≤ n) (hn:n ≤ L.length):leavesB (L.take n) i (t - i) = leavesB L i (t - i):=by
 unfold leavesB
 rw [List.drop_take,List.take_take,Nat.min_eq_left (by omega)]
theorem leafG_take (L:List ByteArray) (n i:Nat) (hi:i < n):leafG (L.take n) (i:Int) = leafG L (i:Int):=by
 unfold leafG
 rw [Int.toNat_natCast,List.getD_eq_getElem?_getD,List.getD_eq_getElem?_getD,List.getElem?_take_of_lt hi]
theorem t_path_len (ix n:Nat) (h:0 < n) (hn:n ≤ 1048576):(pathL 64 ix 0 n).length ≤ 65 ∧ ((pathL 64 ix 0 n).length:Int) ≤ lgI n+1:=by
 have h1:=pathL_log 64 ix 0 n (by omega) (by rw [pow2_64];omega)
 rw [Int.sub_zero] at h1
 have h2:=lgI_bd (n:=(n:Int)) (by omega)
 omega
theorem t_proof_len (m n:Nat) (h0:0 < m) (h:m ≤ n) (hn:n ≤ 1048576):(proofL 64 m 0 n).length ≤ 65 ∧ ((proofL 64 m 0 n).length:Int) ≤ lgI n+1:=by
 have h1:=proofL_log 64 m 0 n (by omega) (by omega) (by rw [pow2_64];omega)
 rw [Int.sub_zero] at h1
 have h2:=lgI_bd (n:=(n:Int)) (by omega)
 omega
theorem t_incl (a:Nat → Addr) (B:Nat) (L:List ByteArray) (n i k c:Nat) (A:Option Addr) (w:World) (hE:Env B a w) (hn:n ≤ L.length) (h4:L.length ≤ 1048576) (hi:i < n) (hp:HIn w A k c (treesB L (pathL 64 i 0 n))) :
 Calls Tryz.prog 21 #[.int .u64 i,.int .u64 n,hv (leafG L (i:Int)),.slice A k c,hv (treeB L 0 n)] w fun e w' => e = .returned .nilIface ∧ Below w.heap.size w w':=by
 have hs:=logs_says (L.take n) n i (by rw [List.length_take];omega) (by omega) hi
 rw [leafG_take L n i hi,treeB_take L n 0 n (by omega) (by omega) (by omega) hn,treesB_take L n _ (path_spansIn i n (by omega) (by omega) (by omega)) hn] at hs
 have hk:k = (pathL 64 i 0 n).length:=by have:=hp.2.1;rw [treesB_len] at this;exact this.symm
 have:=(t_path_len i n (by omega) (by omega)).1
 exact vincl_ok a B i n _ _ _ A k c w hE (leafH_length _) (treeB_len _ _ _) hp hi (by omega) hs (by omega)
theorem t_cons (a:Nat → Addr) (B:Nat) (L:List ByteArray) (n m k c:Nat) (A:Option Addr) (w:World) (hE:Env B a w) (h4:n ≤ 1048576) (h1:1 ≤ m) (hm:m ≤ n) (hp:HIn w A k c (treesB L (proofL 64 m 0 n))) :
 Calls Tryz.prog 42 #[.int .u64 m,.int .u64 n,hv (treeB L 0 m),hv (treeB L 0 n),.slice A k c] w fun e w' => e = .returned .nilIface ∧ Below w.heap.size w w':=by
 have hk:k = (proofL 64 m 0 n).length:=by have:=hp.2.1;rw [treesB_len] at this;exact this.symm
 have hl:=(t_proof_len m n (by omega) hm h4).1
 by_cases e:m = n
 ·subst e
  have he:treesB L (proofL 64 m 0 m) = []:=by rw [proofL_end,if_neg (by omega)];rfl
  exact vcons_same a B m m _ _ A k c _ w hE (treeB_len _ _ _) (treeB_len _ _ _) hp rfl (by omega) (by omega) he rfl
 ·obtain ⟨kk,nn,h,rest,q1,q2,q3,q4,q5,q6⟩:=logs_cons L m n (by omega) (by omega) (by omega)
  exact vcons_ok a B m n _ _ A k c _ w hE (treeB_len _ _ _) (treeB_len _ _ _) hp q1 q2 (by omega) (by omega) q3 q4 q5 q6 (by omega)
theorem t_bK (L:List ByteArray) (n i t:Nat) (hn:n ≤ L.length) (h4:L.length ≤ 1048576) (hit:i < t) (ht:t ≤ n) :
 batchK i n (leavesB L i (t - i)).length (treesB L (batchL 64 i t 0 n)).length = 0 ∧ rootB i n (leavesB L i (t - i)) (treesB L (batchL 64 i t 0 n)) = treeB L 0 n ∧
  ∀ ix:Int,(i:Int) ≤ ix → ix < t → pathB i n (leavesB L i (t - i)) (treesB L (batchL 64 i t 0 n)) ix = treesB L (pathL 64 ix 0 n):=by
 have hl:(L.take n).length = n:=by rw [List.length_take];omega
 have e1:((i:Int)+((t - i:Nat):Int)) = t:=by omega
 have hb:=batch_spansIn i t n (by omega) (by omega) (by omega) (by omega)
 have k1:=logs_K (L.take n) i (t - i) n hl (by omega) (by omega) (by omega)
 have k2:=logs_root (L.take n) i (t - i) n hl (by omega) (by omega) (by omega)
 have k3:=fun ix h1 h2 => logs_path (L.take n) i (t - i) n ix hl (by omega) (by omega) h1 h2
 rw [e1] at k1 k2 k3
 rw [treesB_take L n _ hb hn] at k1 k2 k3
 rw [leavesB_take L n i t (by omega) ht hn] at k2 k3
 rw [treeB_take L n 0 n (by omega) (by omega) (by omega) hn] at k2
 refine ⟨by rw [leavesB_len L i (t - i) (by omega)];exact k1,k2,fun ix h1 h2 => ?_⟩
 rw [k3 ix h1 (by omega),treesB_take L n _ (path_spansIn ix n (by omega) (by omega) (by omega)) hn]
theorem t_bver (a:Nat → Addr) (B:Nat) (L:List ByteArray) (n i t k c1 c2:Nat) (A1 A2:Option Addr) (w:World) (hE:Env B a w) (hn:n ≤ L.length) (h4:L.length ≤ 1048576) (hit:i < t) (ht:t ≤ n) (h1:HIn w A1 (t - i) c1 (leavesB L i (t - i))) (h2:HIn w A2 k c2 (treesB L (batchL 64 i t 0 n))) :
 Calls Tryz.prog 73 #[.int .u64 i,.int .u64 n,.slice A1 (t - i) c1,.slice A2 k c2,hv (treeB L 0 n)] w fun e w' => e = .returned .nilIface ∧ Below w.heap.size w w':=by
 have hb:=t_bK L n i t hn h4 hit ht
 obtain ⟨LV,hLV⟩:∃ z,leavesB L i (t - i) = z:=⟨_,rfl⟩
 obtain ⟨PV,hPV⟩:∃ z,treesB L (batchL 64 i t 0 n) = z:=⟨_,rfl⟩
 rw [hLV] at h1 hb
 rw [hPV] at h2 hb
 obtain ⟨s,hs⟩:∃ s,t - i = s:=⟨_,rfl⟩
 rw [hs] at h1 ⊢
 have e1:=h1.2.1
 have e2:=h2.2.1
 rw [← e1] at h1
 rw [← e2] at h2
 have:=verify_ok a B i n A1 A2 c1 c2 _ _ (treeB L 0 n) (treeB_len _ _ _) w hE h1 h2 (by omega) (by omega) (by omega) (by omega) hb.1
 rw [if_pos hb.2.1,e1,e2] at this
 exact this
/- forge.Inclusion, Consistency, Batch where nothing is forged. Condition: the package-level variables read as listed. -/
theorem finc_none (p:Value) (ix sz:Int) (d:ByteArray) (A:Option Addr) (m c:Nat) (w:World) (x:Addr) (HR:∀ w',Below w.heap.size w w' → Calls Tryz.prog 20 #[p,.int .u64 sz] w' fun ev w2 => ev = .returned (.tuple #[hv zeroH,.iface 203 (.pointer (some x))]) ∧ Below w'.heap.size w' w2) :
 Calls Tryz.prog 9 #[p,.int .u64 ix,.int .u64 sz,.string d,.slice A m c] w fun ev w' => ev = .returned (.tuple #[.string ⟨#[]⟩,.string ⟨#[]⟩,.bool false]) ∧ Below w.heap.size w w':=by
 obtain ⟨vr,evr,Hvr,Zvr,Ivr,Ovr⟩:=row_of zeroH zeroH_length
 rw [evr] at HR
 have HRR:=hid (HR w (Below.refl _ _))
 clear HR evr
 go_enter Tryz.func9,Tryz.ntmps9
 go_wp2_with fail
 refine HRR.out.mono ?_
 rintro ev w1 ⟨rfl,b1⟩
 go_upto_region 2 with (refine wpList_store_row_any rfl 39 _ _ rfl w1.heap.size vr rfl rfl 39 _ (heap_at _ _ _ rfl) Ivr.out (by rw [Zvr.out];rfl) Ovr.out ?_;intro w2 hbN hgN hsN;have b2:Below w1.heap.size w1 w2:=((Below.refl _ w1).alloc (Nat.le_refl _) _).trans (hbN.to_below (by simp) (fun k hk q => by omega));have Rw2:=hid hgN;clear hbN hgN hsN)
 have HB2:Hid (Below w.heap.size w w2):=hid (b1.trans (b2.mono b1.size))
 clear b1 b2
 refine wp_region_held_drew (S:=Gr w2) (by kernel_rfl) (Gr.refl w2).drew (fun hHeld => ?_)
 refine tk (i:=0) (v:=?v1) rfl ?y1 ?r1
 case y1 => (intro w hSw;(try dsimp only at hSw);go_simp;(try with_reducible rfl))
 try simp only [pu]
 refine tk (i:=1) (v:=?v2) rfl ?y2 ?r2
 case y2 => (intro w hSw;(try dsimp only at hSw);go_simp;(try with_reducible rfl))
 try simp only [pu]
 refine tk (i:=2) (v:=?v3) rfl ?y3 ?r3
 case y3 => (intro w hSw;(try dsimp only at hSw);go_simp;(try with_reducible rfl))
 try simp only [pu]
 refine ts (i:=3) rfl ?_
 try simp only [pu]
 refine ts (i:=4) rfl ?_
 try simp only [pu]
 refine ts (i:=5) rfl ?_
 try simp only [pu]
 refine ts (i:=6) rfl ?_
 try simp only [pu]
 refine ts (i:=7) rfl ?_
 try simp only [pu]
 refine ts (i:=8) rfl ?_
 try simp only [pu]
 refine ts (i:=9) rfl ?_
 try simp only [pu]
 refine ts (i:=10) rfl ?_
 try simp only [pu]
 refine tk (i:=11) (v:=?v12) rfl ?y12 ?r12
 case y12 => (intro w hSw;(try dsimp only at hSw);go_simp;(try with_reducible rfl))
 try simp only [pu]
 refine wpAnyH_done (by kernel_rfl) ?_ _
 go_wp2
 go_ret3
 exact ⟨rfl,HB2.out.drew⟩
theorem finc_so (a:Nat → Addr) (B base b:Nat) (v:Value) (L:List ByteArray) (ix sz:Nat) (d:ByteArray) (A:Option Addr) (m c:Nat) (w:World) (hE:Env B a w) (h:LogAt base b v L w) (hi:ix < sz) (hs:sz ≤ L.length) (hd:L[ix]? = some d) (hp:HIn w A m c (treesB L (pathL 64 ix 0 sz))) :
 Calls Tryz.prog 9 #[.pointer (some ⟨b,0,none⟩),.int .u64 ix,.int .u64 sz,.string d,.slice A m c] w fun ev w' => (∃ s,ev = .returned (.tuple #[.string s,.string s,.bool false]) ∧ bOf s = soB L sz) ∧ Below w.heap.size w w':=by
 have hL:=h.1.1
 have hd6:d.size ≤ 65536:=h.1.2 d (List.mem_of_getElem? hd)
 obtain ⟨vr,evr,Hvr,Zvr,Ivr,Ovr⟩:=row_of (treeB L 0 sz) (treeB_len _ _ _)
 obtain ⟨vl,evl,Hvl,Zvl,Ivl,Ovl⟩:=row_of (leafH d) (leafH_length _)
 have HRT:Hid (Calls Tryz.prog 20 #[.pointer (some ⟨b,0,none⟩),.int .u64 sz] w fun ev w' => ev = .returned (.tuple #[.agg vr,.nilIface]) ∧ Below w.heap.size w w'):=hid (by
  have:=lroot_ok a B base b v L sz w hE h (by omega) (by omega)
  rw [evr] at this;exact this)
 have HLF:Hid (∀ w,Env B a w → Calls Tryz.prog 22 #[.string d] w fun ev w' => ev = .returned (.agg vl) ∧ Below w.heap.size w w'):=hid (fun w e => by
  have:=hleaf_any d w (by omega) e.tab
  rw [evl] at this;exact this)
 have hlg:leafG L (ix:Int) = leafH d:=by unfold leafG;rw [Int.toNat_natCast,List.getD_eq_getElem?_getD,hd];rfl
 have HIN:Hid (∀ w,Env B a w → HIn w A m c (treesB L (pathL 64 ix 0 sz)) → Calls Tryz.prog 21 #[.int .u64 ix,.int .u64 sz,.agg vl,.slice A m c,.agg vr] w fun e w' => e = .returned .nilIface ∧ Below w.heap.size w w'):=hid (fun w e q => by
  have:=t_incl a B L sz ix m c A w e hs hL hi q
  rw [hlg,evl,evr] at this;exact this)
 have HN:=hid (show 0 < sz ∧ sz ≤ L.length ∧ ix < sz by omega)
 have HD:=hid hd
 have HE:=hid hE
 have HL:=hid h
 have HP:=hid hp
 clear hE h hp hd hlg evr evl hi hs
 go_enter Tryz.func9,Tryz.ntmps9
 go_wp2_with fail
 refine HRT.out.mono ?_
 rintro ev w1 ⟨rfl,b1⟩
 go_upto_region 2 with (refine wpList_store_row_any rfl 39 _ _ rfl w1.heap.size vr rfl rfl 39 _ (heap_at _ _ _ rfl) Ivr.out (by rw [Zvr.out];rfl) Ovr.out ?_;intro w2 hbN hgN hsN;have b2:Below w1.heap.size w1 w2:=((Below.refl _ w1).alloc (Nat.le_refl _) _).trans (hbN.to_below (by simp) (fun k hk q => by omega));have Rw2:=hid hgN;clear hbN hgN hsN)
 have HB2:Hid (Below w.heap.size w w2):=hid (b1.trans (b2.mono b1.size))
 have HE2:=hid (HE.out.step HB2.out)
 have HL2:=hid (HL.out.below HB2.out)
 have HP2:=hid (HP.out.below HB2.out)
 clear b1 b2
 refine wp_region_held_drew (S:=Gr w2) (by kernel_rfl) (Gr.refl w2).drew (fun hHeld => ?_)
 refine tk (i:=0) (v:=?v13) rfl ?y13 ?r13
 case y13 => (intro w hSw;(try dsimp only at hSw);go_simp;(try with_reducible rfl))
 try simp only [pu]
 refine tk (i:=1) (v:=?v14) rfl ?y14 ?r14
 case y14 => (intro w hSw;(try dsimp only at hSw);go_simp;(try with_reducible rfl))
 try simp only [pu]
 refine tk (i:=2) (v:=?v15) rfl ?y15 ?r15
 case y15 => (intro w hSw;(try dsimp only at hSw);go_simp;(try with_reducible rfl))
 try simp only [pu]
 refine tk (i:=3) (v:=?v16) rfl ?y16 ?r16
 case y16 => (intro w hSw;(try dsimp only at hSw);go_simp;(try with_reducible rfl))
 try simp only [pu]
 refine tk (i:=4) (v:=?v17) rfl ?y17 ?r17
 case y17 => (intro w hSw;(try dsimp only at hSw);go_simp;(try with_reducible rfl))
 try simp only [pu]
 refine tk (i:=5) (v:=?v18) rfl ?y18 ?r18
 case y18 => (intro w hSw;(try dsimp only at hSw);go_simp;(try with_reducible rfl))
 try simp only [pu]
 refine tk (i:=7) (v:=?v19) rfl ?y19 ?r19
 case y19 => (intro w hSw;(try dsimp only at hSw);go_simp;(try with_reducible rfl))
 try simp only [pu]
 refine tw (i:=8) rfl (yieldsIf_load_row (by rfl) 39 _ (by rfl) w1.heap.size (by rfl) 39 vr (0,0) _ (fun w h => (Below.block h _ (Array.getElem?_eq_some_iff.1 Rw2.out).1).trans Rw2.out) Tryz.underlying39 rfl Ivr.out) ?_
 try simp only [pu]
 refine wpAnyH_ready (rs:=[6]) (by kernel_rfl) (by simp) ?_
 refine AllReadyH.cons (i:=6) rfl (fun K2 hK2 => ?_) AllReadyH.nil
 go_simp
 go_at_call 22
 refine (HLF.out w2.drew (HE2.out.step (show Gr w2 w2.drew from (by repeat (first | exact Gr.refl _ | (refine Gr.step ?_ (by assumption)) | (refine Gr.alloc ?_ _) | (refine Gr.drew ?_)))))).mono ?_
 rintro ev w101 ⟨rfl,b101⟩
 try go_wp2_with fail
 refine hK2.out _ _ (show Gr w2 _ from (by repeat (first | exact Gr.refl _ | (refine Gr.step ?_ (by assumption)) | (refine Gr.alloc ?_ _) | (refine Gr.drew ?_)))) (fun hHeld2 => ?_)
 clear hK2 K2
 try simp only [pu]
 refine wpAnyH_ready (rs:=[9]) (by kernel_rfl) (by simp) ?_
 refine AllReadyH.cons (i:=9) rfl (fun K2 hK2 => ?_) AllReadyH.nil
 go_simp
 go_at_call 21
 refine (HIN.out w101 (HE2.out.step (show Gr w2 w101 from (by repeat (first | exact Gr.refl _ | (refine Gr.step ?_ (by assumption)) | (refine Gr.alloc ?_ _) | (refine Gr.drew ?_))))) (HP2.out.below (show Gr w2 w101 from (by repeat (first | exact Gr.refl _ | (refine Gr.step ?_ (by assumption)) | (refine Gr.alloc ?_ _) | (refine Gr.drew ?_)))))).mono ?_
 rintro ev w102 ⟨rfl,b102⟩
 try go_wp2_with fail
 refine hK2.out _ _ (show Gr w2 _ from (by repeat (first | exact Gr.refl _ | (refine Gr.step ?_ (by assumption)) | (refine Gr.alloc ?_ _) | (refine Gr.drew ?_)))) (fun hHeld2 => ?_)
 clear hK2 K2
 try simp only [pu]
 refine tk (i:=10) (v:=?v21) rfl ?y21 ?r21
 case y21 => (intro w hSw;(try dsimp only at hSw);go_simp;(try with_reducible rfl))
 try simp only [pu]
 refine tk (i:=11) (v:=?v22) rfl ?y22 ?r22
 case y22 => (intro w hSw;(try dsimp only at hSw);go_simp;(try with_reducible rfl))
 try simp only [pu]
 refine wpAnyH_done (by kernel_rfl) ?_ _
 obtain ⟨w5,hw5⟩:∃ z,w102 = z:=⟨_,rfl⟩
 have b5:Below w2.heap.size w2 w5:=by rw [← hw5];exact (show Gr w2 w102 from (by repeat (first | exact Gr.refl _ | (refine Gr.step ?_ (by assumption)) | (refine Gr.alloc ?_ _) | (refine Gr.drew ?_))))
 rw [hw5]
 have B5:=hid b5
 clear hw5 hHeld hHeld2
 have HE5:=HE2.out.step B5.out
 have HL5:=HL2.out.below B5.out
 go_wp2_with fail
 refine (lleaf_ok base b v L w5 HL5 ix d HD.out).mono ?_
 rintro ev w6 ⟨rfl,rfl⟩
 have hdd:(d == d) = true:=(Go.MapKept.bytes_beq d d).2 rfl
 go_wp2_with fail
 refine (so_any a B base b v L sz w5 HE5 HL5 HN.out.1 HN.out.2.1).mono ?_
 rintro ev w7 ⟨⟨s,rfl,q1⟩,b7⟩
 have HQ:=hid q1
 clear q1
 go_wp2
 go_ret3
 exact ⟨⟨s,rfl,HQ.out⟩,HB2.out.trans ((B5.out.trans (b7.mono B5.out.size)).mono HB2.out.size)⟩
theorem fcon_none (p:Value) (old sz:Int) (hh:List UInt8) (lh:hh.length = 32) (A:Option Addr) (m c:Nat) (w:World) (x:Addr) (HR:∀ w',Below w.heap.size w w' → Calls Tryz.prog 20 #[p,.int .u64 sz] w' fun ev w2 => ev = .returned (.tuple #[hv zeroH,.iface 203 (.pointer (some x))]) ∧ Below w'.heap.size w' w2) :
 Calls Tryz.prog 13 #[p,.int .u64 old,.int .u64 sz,hv hh,.slice A m c] w fun ev w' => ev = .returned (.tuple #[.string ⟨#[]⟩,.string ⟨#[]⟩,.bool false]) ∧ Below w.heap.size w w':=by
 obtain ⟨vr,evr,Hvr,Zvr,Ivr,Ovr⟩:=row_of zeroH zeroH_length
 obtain ⟨vh,evh,Hvh,Zvh,Ivh,Ovh⟩:=row_of hh lh
 rw [evr] at HR
 rw [evh]
 have R8:Hid ((w.alloc (.cells vh 39)).heap[w.heap.size]? = some (.cells vh 39 (0,0))):=hid (heap_at _ _ _ rfl)
 have HB0:Hid (Below w.heap.size w (w.alloc (.cells vh 39))):=hid ((Below.refl _ _).alloc (Nat.le_refl _) _)
 have HS0:Hid (w.heap.size < (w.alloc (.cells vh 39)).heap.size):=hid (by simp)
 obtain ⟨wv,hwv⟩:∃ x,w.alloc (.cells vh 39) = x:=⟨_,rfl⟩
 rw [hwv] at R8 HB0 HS0
 have HWV:=hid hwv
 clear hwv
 have HRR:=hid (HR wv HB0.out)
 clear HR evr evh
 go_enter Tryz.func13,Tryz.ntmps13
 go_upto_region 1 with fail
 rw [HWV.out]
 go_wp2_with fail
 refine HRR.out.mono ?_
 rintro ev w1 ⟨rfl,b1⟩
 go_upto_region 2 with (refine wpList_store_row_any rfl 39 _ _ rfl w1.heap.size vr rfl rfl 39 _ (heap_at _ _ _ rfl) Ivr.out (by rw [Zvr.out];rfl) Ovr.out ?_;intro w2 hbN hgN hsN;have b2:Below w1.heap.size w1 w2:=((Below.refl _ w1).alloc (Nat.le_refl _) _).trans (hbN.to_below (by simp) (fun k hk q => by omega));have Rw2:=hid hgN;clear hbN hgN hsN)
 have HB2:Hid (Below w.heap.size w w2):=hid (HB0.out.trans ((b1.trans (b2.mono b1.size)).mono HB0.out.size))
 clear b1 b2
 go_wp2
 go_ret3
 exact ⟨rfl,HB2.out⟩
theorem fcon_so (a:Nat → Addr) (B base b:Nat) (v:Value) (L:List ByteArray) (old sz:Nat) (A:Option Addr) (m c:Nat) (w:World) (hE:Env B a w) (h:LogAt base b v L w) (h0:0 < old) (hi:old ≤ sz) (hs:sz ≤ L.length) (hp:HIn w A m c (treesB L (proofL 64 old 0 sz))) :
 Calls Tryz.prog 13 #[.pointer (some ⟨b,0,none⟩),.int .u64 old,.int .u64 sz,hv (treeB L 0 old),.slice A m c] w fun ev w' => (∃ s,ev = .returned (.tuple #[.string s,.string s,.bool false]) ∧ bOf s = soB L sz) ∧ Below w.heap.size w w':=by
 have hL:=h.1.1
 have lh:=treeB_len L 0 old
 obtain ⟨vr,evr,Hvr,Zvr,Ivr,Ovr⟩:=row_of (treeB L 0 sz) (treeB_len _ _ _)
 obtain ⟨vh,evh,Hvh,Zvh,Ivh,Ovh⟩:=row_of (treeB L 0 old) lh
 have HRT:Hid (∀ w,Env B a w → LogAt base b v L w → Calls Tryz.prog 20 #[.pointer (some ⟨b,0,none⟩),.int .u64 sz] w fun ev w' => ev = .returned (.tuple #[.agg vr,.nilIface]) ∧ Below w.heap.size w w'):=hid (fun w e q => by
  have:=lroot_ok a B base b v L sz w e q (by omega) (by omega)
  rw [evr] at this;exact this)
 have HRO:Hid (∀ w,Env B a w → LogAt base b v L w → Calls Tryz.prog 20 #[.pointer (some ⟨b,0,none⟩),.int .u64 old] w fun ev w' => ev = .returned (.tuple #[.agg vh,.nilIface]) ∧ Below w.heap.size w w'):=hid (fun w e q => by
  have:=lroot_ok a B base b v L old w e q (by omega) (by omega)
  rw [evh] at this;exact this)
 have HCO:Hid (∀ w,Env B a w → HIn w A m c (treesB L (proofL 64 old 0 sz)) → Calls Tryz.prog 42 #[.int .u64 old,.int .u64 sz,.agg vh,.agg vr,.slice A m c] w fun e w' => e = .returned .nilIface ∧ Below w.heap.size w w'):=hid (fun w e q => by
  have:=t_cons a B L sz old m c A w e (by omega) h0 hi q
  rw [evh,evr] at this;exact this)
 have hq:∀ w,(Op.equalIn 10000 39 (.agg vh) (.agg vh)).run Tryz.prog w = .ok true w:=fun w => by rw [eq_hash _ _ lh lh vh vh evh evh w];simp
 have HN:=hid (show 0 < sz ∧ sz ≤ L.length by omega)
 have HE:=hid hE
 have HL:=hid h
 have HP:=hid hp
 rw [evh]
 have R8:Hid ((w.alloc (.cells vh 39)).heap[w.heap.size]? = some (.cells vh 39 (0,0))):=hid (heap_at _ _ _ rfl)
 have HB0:Hid (Below w.heap.size w (w.alloc (.cells vh 39))):=hid ((Below.refl _ _).alloc (Nat.le_refl _) _)
 have HS0:Hid (w.heap.size < (w.alloc (.cells vh 39)).heap.size):=hid (by simp)
 obtain ⟨wv,hwv⟩:∃ x,w.alloc (.cells vh 39) = x:=⟨_,rfl⟩
 rw [hwv] at R8 HB0 HS0
 have HWV:=hid hwv
 clear hwv
 clear hE h hp evr evh hi hs lh h0
 go_enter Tryz.func13,Tryz.ntmps13
 go_upto_region 1 with fail
 rw [HWV.out]
 go_wp2_with fail
 refine (HRT.out wv (HE.out.step HB0.out) (HL.out.below HB0.out)).mono ?_
 rintro ev w1 ⟨rfl,b1⟩
 go_upto_region 2 with (refine wpList_store_row_any rfl 39 _ _ rfl w1.heap.size vr rfl rfl 39 _ (heap_at _ _ _ rfl) Ivr.out (by rw [Zvr.out];rfl) Ovr.out ?_;intro w2 hbN hgN hsN;have b2:Below w1.heap.size w1 w2:=((Below.refl _ w1).alloc (Nat.le_refl _) _).trans (hbN.to_below (by simp) (fun k hk q => by omega));have Rw2:=hid hgN;clear hbN hgN hsN)
 have BV2:Hid (Below wv.heap.size wv w2):=hid (b1.trans (b2.mono b1.size))
 have HB2:Hid (Below w.heap.size w w2):=hid (HB0.out.trans (BV2.out.mono HB0.out.size))
 have R82:Hid (w2.heap[w.heap.size]? = some (.cells vh 39 (0,0))):=hid ((BV2.out.block _ HS0.out).trans R8.out)
 clear b1 b2
 go_wp2_with (first
  | (refine wpList_load_row_g rfl 39 _ rfl w.heap.size rfl 39 vh (0,0) _ R82.out Tryz.underlying39 rfl Ivh.out ?_)
  | (refine wpList_load_row_g rfl 39 _ rfl w1.heap.size rfl 39 vr (0,0) _ Rw2.out Tryz.underlying39 rfl Ivr.out ?_))
 refine (HCO.out w2 (HE.out.step HB2.out) (HP.out.below HB2.out)).mono ?_
 rintro ev w3 ⟨rfl,b3⟩
 have HB3:Hid (Below w.heap.size w w3):=hid (HB2.out.trans (b3.mono HB2.out.size))
 have B23:=hid b3
 clear b3
 go_wp2_with fail
 refine (HRO.out w3 (HE.out.step HB3.out) (HL.out.below HB3.out)).mono ?_
 rintro ev w4 ⟨rfl,b4⟩
 go_upto_region 5 with (refine wpList_store_row_any rfl 39 _ _ rfl w4.heap.size vh rfl rfl 39 _ (heap_at _ _ _ rfl) Ivh.out (by rw [Zvh.out];rfl) Ovh.out ?_;intro w5 hbN hgN hsN;have b5:Below w4.heap.size w4 w5:=((Below.refl _ w4).alloc (Nat.le_refl _) _).trans (hbN.to_below (by simp) (fun k hk q => by omega));have Rw5:=hid hgN;clear hbN hgN hsN)
 have B35:Hid (Below w3.heap.size w3 w5):=hid (b4.trans (b5.mono b4.size))
 have HB5:Hid (Below w.heap.size w w5):=hid (HB3.out.trans (B35.out.mono HB3.out.size))
 have R85:Hid (w5.heap[w.heap.size]? = some (.cells vh 39 (0,0))):=hid ((B35.out.block _ (Nat.lt_of_lt_of_le (Array.getElem?_eq_some_iff.1 R82.out).1 B23.out.size)).trans ((B23.out.block _ (Array.getElem?_eq_some_iff.1 R82.out).1).trans R82.out))
 clear b4 b5
 go_wp2_with (first
  | (refine wpList_load_row_g rfl 39 _ rfl w4.heap.size rfl 39 vh (0,0) _ Rw5.out Tryz.underlying39 rfl Ivh.out ?_)
  | (refine wpList_load_row_g rfl 39 _ rfl w.heap.size rfl 39 vh (0,0) _ R85.out Tryz.underlying39 rfl Ivh.out ?_))
 refine (so_any a B base b v L sz w5 (HE.out.step HB5.out) (HL.out.below HB5.out) HN.out.1 HN.out.2).mono ?_
 rintro ev w7 ⟨⟨s,rfl,q1⟩,b7⟩
 have HQ:=hid q1
 clear q1
 go_wp2
 go_ret3
 exact ⟨⟨s,rfl,HQ.out⟩,HB5.out.trans (b7.mono HB5.out.size)⟩
theorem fbat_so (a:Nat → Addr) (B base b:Nat) (v:Value) (L:List ByteArray) (x y sz:Nat) (S:Option Addr) (e:Nat) (A:Option Addr) (m c:Nat) (w:World) (hE:Env B a w) (h:LogAt base b v L w) (h0:x < y) (hi:y ≤ sz) (hs:sz ≤ L.length) (hS:SIn w S (y - x) e ((L.drop x).take (y - x))) (hp:HIn w A m c (treesB L (batchL 64 x y 0 sz))) :
 Calls Tryz.prog 39 #[.pointer (some ⟨b,0,none⟩),.int .u64 x,.int .u64 sz,.slice S (y - x:Nat) e,.slice A m c] w fun ev w' => (∃ s,ev = .returned (.tuple #[.string s,.string s,.bool false]) ∧ bOf s = soB L sz) ∧ Below w.heap.size w w':=by
 have hL:=h.1.1
 obtain ⟨i0,hii,hz0,hz1,hz2⟩:=info_parts info_hash
 obtain ⟨vr,evr,Hvr,Zvr,Ivr,Ovr⟩:=row_of (treeB L 0 sz) (treeB_len _ _ _)
 have HRT:Hid (Calls Tryz.prog 20 #[.pointer (some ⟨b,0,none⟩),.int .u64 sz] w fun ev w' => ev = .returned (.tuple #[.agg vr,.nilIface]) ∧ Below w.heap.size w w'):=hid (by
  have:=lroot_ok a B base b v L sz w hE h (by omega) (by omega)
  rw [evr] at this;exact this)
 obtain ⟨n,hn⟩:∃ n,y - x = n:=⟨_,rfl⟩
 have HLV:Hid (leavesB L x n = ((L.drop x).take n).map leafH):=hid rfl
 have HLVL:Hid ((leavesB L x n).length = n):=hid (leavesB_len L x n (by omega))
 have HVF:Hid (∀ (G:Option Addr) (k':Nat) w,Env B a w → HIn w G n k' (leavesB L x n) → HIn w A m c (treesB L (batchL 64 x y 0 sz)) → Calls Tryz.prog 73 #[.int .u64 x,.int .u64 sz,.slice G n k',.slice A m c,.agg vr] w fun e w' => e = .returned .nilIface ∧ Below w.heap.size w w'):=hid (fun G k' w e q1 q2 => by
  have:=t_bver a B L sz x y m k' c G A w e hs hL h0 hi (by rw [hn];exact q1) q2
  rw [hn,evr] at this;exact this)
 have HN:=hid (show 0 < sz ∧ sz ≤ L.length ∧ x+n ≤ sz ∧ L.length ≤ 1048576 by omega)
 have HE:=hid hE
 have HL:=hid h
 have HP:=hid hp
 rw [hn] at hS ⊢
 have HS:=hid hS
 have HOK:Hid (∀ k s,((L.drop x).take n)[k]? = some s → L[x+k]? = some s ∧ s.size ≤ 65536):=hid (fun k s hk => by
  have hkn:k < n:=by have:=(List.getElem?_eq_some_iff.1 hk).1;rw [List.length_take] at this;omega
  rw [List.getElem?_take_of_lt hkn,List.getElem?_drop] at hk
  exact ⟨hk,h.1.2 s (List.mem_of_getElem? hk)⟩)
 have HLN:Hid (((L.drop x).take n).length = n):=hid hS.1
 have hn9:n ≤ 1048576:=by omega
 have hxn:(x:Int)+n ≤ 1048576:=by omega
 clear hE h hp hS evr hi hs h0 hn hL
 obtain ⟨D,hD⟩:∃ D,(L.drop x).take n = D:=⟨_,rfl⟩
 rw [hD] at HLV HS HOK HLN
 clear hD
 go_enter Tryz.func39,Tryz.ntmps39
 go_wp2_with fail
 refine HRT.out.mono ?_
 rintro ev w1 ⟨rfl,b1⟩
 go_upto_region 2 with (refine wpList_store_row_any rfl 39 _ _ rfl w1.heap.size vr rfl rfl 39 _ (heap_at _ _ _ rfl) Ivr.out (by rw [Zvr.out];rfl) Ovr.out ?_;intro w2 hbN hgN hsN;have b2:Below w1.heap.size w1 w2:=((Below.refl _ w1).alloc (Nat.le_refl _) _).trans (hbN.to_below (by simp) (fun k hk q => by omega));have Rw2:=hid hgN;clear hbN hgN hsN)
 have HB2:Hid (Below w.heap.size w w2):=hid (b1.trans (b2.mono b1.size))
 clear b1 b2
 go_wp2
 go_loopw [15,16,34] (fun o f i wr => ∃ k Aq cq,k ≤ n ∧ i = .int .i64 (k:Nat) ∧ f = .bool true ∧ o = .slice Aq k cq ∧ k ≤ cq ∧ Hid (wr.ownsRow w2.heap.size 39 32 (.slice Aq k cq) k (hashCells ((leavesB L x n).take k))) ∧ Hid (Gr w2 wr)) (fun _ _ i _ => n - (intOf i).toNat)
 case atStart => exact ⟨0,none,0,Nat.zero_le _,rfl,rfl,rfl,Nat.le_refl _,hid (by simpa [hashCells] using World.ownsRow_nil _ _ _ _),hid (Gr.refl _)⟩
 case round =>
  obtain ⟨k,Aq,cq,hk,rfl,rfl,rfl,hkc,HO,HG⟩:=hrel
  have HBR:Hid (Below w.heap.size w wr):=hid (HB2.out.trans (HG.out.mono HB2.out.size))
  by_cases hlt:k < n
  ·obtain ⟨d,hd⟩:∃ s,D[k]? = some s:=⟨_,List.getElem?_eq_getElem (by have:=HLN.out;omega)⟩
   obtain ⟨g,o,rfl,hc0,hg,hsz⟩:=HS.out.at hd
   have hc:=cell_below HBR.out hc0 hg
   obtain ⟨hdL,hd6⟩:=HOK.out k d hd
   obtain ⟨vy,evy,Hvy,Zvy,Ivy,Ovy⟩:=row_of (leafH d) (leafH_length _)
   have HX:=hid (And.intro (leafH_length d) Hvy.out)
   have HLF:Hid (∀ w,Env B a w → Calls Tryz.prog 22 #[.string d] w fun ev w' => ev = .returned (.agg vy) ∧ Below w.heap.size w w'):=hid (fun w e => by
    have:=hleaf_any d w (by omega) e.tab
    rw [evy] at this;exact this)
   have HTK:Hid ((leavesB L x n).take (k+1) = (leavesB L x n).take k ++ [leafH d]):=hid (by
    rw [List.take_add_one,HLV.out,List.getElem?_map,hd];rfl)
   obtain ⟨outk,houtk⟩:∃ o,(leavesB L x n).take k = o:=⟨_,rfl⟩
   rw [houtk] at HO HTK
   have HDL:=hid hdL
   have i0':(0:Int) ≤ k:=by omega
   have i1:(k:Int) < n:=by omega
   have hwk:IntKind.u64.wrap (k:Int) = k:=IntWalk.u64_in _ (by omega)
   have hwx:IntKind.u64.wrap ((x:Int)+k) = (x:Int)+k:=IntWalk.u64_in _ (by omega)
   have hdd:(d == d) = true:=(Go.MapKept.bytes_beq d d).2 rfl
   clear hd hc0 hdL evy houtk hg
   go_wp2_with fail
   refine (HLF.out wr (HE.out.step HBR.out)).mono ?_
   rintro ev w3 ⟨rfl,b3⟩
   have HG3:Hid (Gr w2 w3):=hid (show Below w2.heap.size w2 w3 from HG.out.trans (b3.mono HG.out.size))
   have bW:Hid (Below wr.heap.size wr w3):=hid b3
   have HO2:Hid ((w3.alloc (.cells vy 39)).ownsRow w2.heap.size 39 32 (.slice Aq k cq) k (hashCells outk)):=hid (own_below (own_below HO.out b3 (Nat.le_refl _)) ((Below.refl _ _).alloc (Nat.le_refl _) _) (Nat.le_refl _))
   clear b3
   go_wp2_with (first
    | (refine wpList_buildSlice_row rfl 24 39 _ vy _ 32 rfl rfl Tryz.underlying24 Tryz.sizeOf39 Tryz.zeroValue39 rfl Zvy.out (by omega) (by omega) ?_)
    | (at_builtin;go_loud (refine wpList_append_list rfl _ _ 24 rfl w2.heap.size w3.heap.size 39 i0 _ 32 32 Tryz.underlying24 hii hz0 hz1 hz2 rfl (by omega) (.slice Aq k cq) _ k 1 (hashCells outk) (hashCells [leafH d]) rfl rfl (HO2.out) (own_one w3 w3.heap.size vy (leafH d) HX.out.1 HX.out.2 (Nat.le_refl _)) (hashCells_cell _) (by unfold maxLen;omega) (by omega) (by simp;have:=(show Below w2.heap.size w2 w3 from HG3.out).size;omega) ?_);intro v' w9 hown hgrow hblk;obtain ⟨A9,c9,rfl,hc9⟩:=own_shape hown;have HN9:=hid (And.intro hown (And.intro hgrow hblk));clear hown hgrow hblk))
   have HG9:Hid (Gr w2 w9):=hid ((((Below.refl _ w3).alloc (Nat.le_refl _) _).mono (Below.size HG3.out) |> (show Below w2.heap.size w2 w3 from HG3.out).trans).grown HN9.out.2.1 (by simp;have:=(show Below w2.heap.size w2 w3 from HG3.out).size;omega) (fun q hq => (HO2.out.lt q hq).1))
   have HB9:Hid (Below w.heap.size w w9):=hid (HB2.out.trans (Below.mono HG9.out HB2.out.size))
   go_wp2_with fail
   rw [show ((x:Int)+(k:Int)) = ((x+k:Nat):Int) by omega]
   refine (lleaf_ok base b v L w9 (HL.out.below HB9.out) (x+k) d HDL.out).mono ?_
   rintro ev w10 ⟨rfl,rfl⟩
   go_wp2
   go_roundw
   case rel => exact ⟨k+1,A9,c9,by omega,by go_num,rfl,rfl,hc9,hid (own_congr HN9.out.1 rfl (by rw [HTK.out,hashCells_append])),HG9⟩
   case measure => simp [intOf];omega
  ·obtain rfl:n = k:=by omega
   have HT1:Hid ((leavesB L x n).take n = leavesB L x n):=hid (List.take_of_length_le (by rw [HLVL.out];exact Nat.le_refl _))
   rw [HT1.out] at HO
   have HI1:Hid (HIn wr Aq n cq (leavesB L x n)):=hid (own_hin HO.out (leavesB_h32 _ _ _) HLVL.out)
   have RR:Hid (wr.heap[w1.heap.size]? = some (.cells vr 39 (0,0))):=hid ((Below.block (show Below w2.heap.size w2 wr from HG.out) _ (Array.getElem?_eq_some_iff.1 Rw2.out).1).trans Rw2.out)
   go_wp2_with (refine wpList_load_row_g rfl 39 _ rfl w1.heap.size rfl 39 vr (0,0) _ RR.out Tryz.underlying39 rfl Ivr.out ?_)
   refine (HVF.out _ _ wr (HE.out.step HBR.out) HI1.out (HP.out.below HBR.out)).mono ?_
   rintro ev w4 ⟨rfl,b4⟩
   have HB4:Hid (Below w.heap.size w w4):=hid (HBR.out.trans (b4.mono HBR.out.size))
   clear b4
   go_wp2_with fail
   refine (so_any a B base b v L sz w4 (HE.out.step HB4.out) (HL.out.below HB4.out) HN.out.1 HN.out.2.1).mono ?_
   rintro ev w7 ⟨⟨s,rfl,q1⟩,b7⟩
   have HQ:=hid q1
   clear q1
   go_wp2
   go_ret3
   exact ⟨⟨s,rfl,HQ.out⟩,HB4.out.trans (b7.mono HB4.out.size)⟩
end Go.Proofs.YtpdkpdpkggepcaaGreatDoor
