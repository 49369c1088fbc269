/- naive.Log.Tree: the hash of a stretch. Condition: the package-level variables read as listed. -/
import Derived.Test.YtpdkpdpkggepcaaGreatDoorMem
import Derived.Test.YtpdkpdpkggepcaaGreatDoorNaiveLog
import Derived.BigRegion
import Derived.Deep.DeepCutAuto
namespace Go.Proofs.YtpdkpdpkggepcaaGreatDoor
open Go.ChangeShapes Go.WideShapes Go.ChangeAt Go.RowKit
set_option maxRecDepth 100000
set_option maxHeartbeats 4000000
open Lib (hid)
set_option linter.unusedVariables false
structure TreePre (a:Nat → Addr) (B base b0 Bl Bt:Nat) (v:Value) (L:List ByteArray) (w:World):Prop where
 env:Env B a w
 log:LogAt base b0 v L w
 bl:w.cell? ⟨Bl,0,none⟩ = some (.pointer (some ⟨b0,0,none⟩))
 bt:w.cell? ⟨Bt,0,none⟩ = some (.func (.func 88) #[] #[.pointer (some ⟨Bl,0,none⟩),.pointer (some ⟨Bt,0,none⟩)])
theorem TreePre.below {a:Nat → Addr} {B base b0 Bl Bt:Nat} {v:Value} {L:List ByteArray} {w w':World} (h:TreePre a B base b0 Bl Bt v L w) (hb:Below w.heap.size w w'):TreePre a B base b0 Bl Bt v L w' :=
 ⟨h.env.step hb,h.log.below hb,cell_below hb h.bl (block_of_cell h.bl),cell_below hb h.bt (block_of_cell h.bt)⟩
theorem tree1_leaf (a:Nat → Addr) (B base b0 Bl Bt:Nat) (v:Value) (L:List ByteArray) (b e:Int) (w:World) (hP:TreePre a B base b0 Bl Bt v L w) (h0:0 ≤ b) (h1:b < e) (h2:e ≤ (L.length:Int)) (hs2:e - b < 2) :
 Calls Tryz.prog 88 #[.int .u64 b,.int .u64 e,.pointer (some ⟨Bl,0,none⟩),.pointer (some ⟨Bt,0,none⟩)] w fun ev w' => ev = .returned (hv (leafG L b)) ∧ Below w.heap.size w w':=by
 obtain ⟨t,rfl⟩:∃ t:Nat,b = t:=⟨b.toNat,by omega⟩
 obtain ⟨s,hs⟩:∃ s,L[t]? = some s:=⟨_,List.getElem?_eq_getElem (show t < L.length by omega)⟩
 obtain ⟨g,cap,rfl,hcap,hc,hg⟩:=hP.log.leaf hs
 have hLF:leafG L t = leafH s:=by unfold leafG;rw [List.getD_eq_getElem?_getD,Int.toNat_natCast,hs];rfl
 rw [hLF]
 have hssz:=hP.log.1.2 s (List.mem_of_getElem? hs)
 have hLm:=hP.log.1.1
 have HP:=hid hP
 have hbl:=hP.bl
 have hb0:=hP.log.c0
 have HB0:=hid (And.intro (block_of_cell hbl) (And.intro hP.log.lt hg))
 obtain ⟨n,hn⟩:∃ n,L.length = n:=⟨_,rfl⟩
 rw [hn] at hb0 hcap h2 hLm
 have ht:(t:Int) < n:=by omega
 have ht0:(0:Int) ≤ t:=by omega
 have htw:IntKind.u64.wrap (t:Int) = t:=IntWalk.u64_in _ (by omega)
 have HE:=hid (And.intro h1 (And.intro hs2 (And.intro hssz (And.intro h2 hLm))))
 have hte:(t:Int) ≤ e:=by omega
 have hee:e < 18446744073709551616:=by omega
 obtain ⟨rv,hrv,RE,HS9,HI9,HO9⟩:=row_of (leafH s) (leafH_length s)
 rw [hrv]
 have HLEAF:Hid (∀ w,Env B a w → Calls Tryz.prog 22 #[.string s] w fun ev w' => ev = .returned (.agg rv) ∧ Below w.heap.size w w'):=hid (fun w h => by
  have:=hleaf_any s w (by have:=HE.out.2.2.1;omega) h.tab
  rw [hrv] at this;exact this)
 have hBa:Hid (Below w.heap.size w (w.alloc (.cells (List.replicate 32 (Value.int .u8 0)).toArray 39))):=hid ((Below.refl _ _).alloc (Nat.le_refl _) _)
 have hRa:Hid (IRow (w.alloc (.cells (List.replicate 32 (Value.int .u8 0)).toArray 39)) w.heap.size .u8 39 (List.replicate 32 0)):=hid (irow_new _ _ _ _ (by simp))
 obtain ⟨wa,hwa⟩:∃ wa,w.alloc (.cells (List.replicate 32 (Value.int .u8 0)).toArray 39) = wa:=⟨_,rfl⟩
 have HSA:=hid (show w.heap.size+1 = wa.heap.size by rw [← hwa];simp)
 rw [hwa] at hBa hRa
 simp only [List.replicate,List.toArray] at hwa
 have HWA:=hid hwa
 clear hwa
 have c1:wa.cell? ⟨Bl,0,none⟩ = some (.pointer (some ⟨b0,0,none⟩)):=cell_below hBa.out hbl HB0.out.1
 have c2:wa.cell? ⟨b0,0,none⟩ = some (.slice (some ⟨g,0,none⟩) n cap):=cell_below hBa.out hb0 HB0.out.2.1
 have c3:wa.cell? ⟨g,t,none⟩ = some (.string s):=cell_below hBa.out hc HB0.out.2.2
 have EA:=hid (HP.out.env.step hBa.out)
 clear hP hs hLF hssz hLm hn hrv hbl hb0 hc hg h1 h2 hs2
 go_enter Tryz.func88,Tryz.ntmps88
 go_upto_region 1 with fail
 rw [HWA.out]
 go_wp2_with (go_at_call 52;refine (split_no _ _ (by omega) (by omega) (.inl HE.out.2.1)).mono ?_;rintro ev w' ⟨rfl,rfl⟩)
 go_wp2_with fail
 refine (HLEAF.out wa EA.out).mono ?_
 rintro ev w3 ⟨rfl,hB3⟩
 have HG:Hid (w3.heap[w.heap.size]? = some (.cells ((List.replicate 32 (0:Int)).map (Value.int .u8)).toArray 39 (0,0))):=hid (hRa.out.below hB3 (by have:=HSA.out;omega))
 have HFin:Hid (Below w.heap.size w (w3.setRow w.heap.size rv)):=hid (below_setRow (hBa.out.trans (hB3.mono (by have:=HSA.out;omega))) _ _ (Nat.le_refl _))
 clear hB3
 go_wp2_with (refine wpList_store_row rfl 39 _ _ rfl w.heap.size rv rfl rfl 39 _ HG.out HI9.out (by rw [HS9.out];simp) HO9.out ?_)
 refine bodyPost_ret (v:=.agg rv) (results_cell_row rfl _ _ w.heap.size 39 rv (0,0) _ rfl (setRow_heap _ _ _ _ _ _ HG.out) Tryz.underlying39 rfl HI9.out) rfl ⟨rfl,HFin.out⟩
theorem tree1_any (a:Nat → Addr) (B base b0 Bl Bt:Nat) (v:Value) (L:List ByteArray):∀ (f:Nat) (b e:Int) (w:World),TreePre a B base b0 Bl Bt v L w → 0 ≤ b → b < e → e ≤ (L.length:Int) → e - b ≤ pow2 f →
 Calls Tryz.prog 88 #[.int .u64 b,.int .u64 e,.pointer (some ⟨Bl,0,none⟩),.pointer (some ⟨Bt,0,none⟩)] w fun ev w' => ev = .returned (hv (treeF nodeH f (leafG L) b e)) ∧ Below w.heap.size w w':=by
 intro f
 induction f with
 | zero =>
  intro b e w hP h0 h1 h2 hp
  rw [pow2_zero] at hp
  rw [treeF]
  exact tree1_leaf a B base b0 Bl Bt v L b e w hP h0 h1 h2 (by omega)
 | succ f ih =>
  intro b e w hP h0 h1 h2 hp
  by_cases hs2:e - b < 2
  ·rw [treeF,if_pos hs2]
   exact tree1_leaf a B base b0 Bl Bt v L b e w hP h0 h1 h2 hs2
  ·have hk:=blwI_bd (n:=e - b) (by omega)
   have hkf:=blwI_le_pow (n:=e - b) (f:=f) (by omega) hp
   have hLm:=hP.log.1.1
   have hSp:=hid (fun w => split_yes (e - b) w (by omega) (by omega))
   rw [treeF,if_neg hs2]
   obtain ⟨k,hkk⟩:∃ k,blwI (e - b) = k:=⟨_,rfl⟩
   rw [hkk] at hk hkf hSp ⊢
   have hl1:=treeF_len L f b (b+k)
   have hl2:=treeF_len L f (b+k) e
   have ihb:=fun w h => ih b (b+k) w h h0 (by omega) (by omega) (by omega)
   have ihe:=fun w h => ih (b+k) e w h (by omega) (by omega) h2 (by omega)
   obtain ⟨x,hx⟩:∃ x,treeF nodeH f (leafG L) b (b+k) = x:=⟨_,rfl⟩
   obtain ⟨y,hy⟩:∃ y,treeF nodeH f (leafG L) (b+k) e = y:=⟨_,rfl⟩
   rw [hx] at ihb hl1 ⊢
   rw [hy] at ihe hl2 ⊢
   obtain ⟨rv,hrv,RE,HS9,HI9,HO9⟩:=row_of (nodeH x y) (nodeH_length x y)
   obtain ⟨vx,hvx,REx,HSx,HIx,HOx⟩:=row_of x hl1
   obtain ⟨vy,hvy,REy,HSy,HIy,HOy⟩:=row_of y hl2
   rw [hvx] at ihb
   rw [hvy] at ihe
   have HNODE:Hid (∀ w,Env B a w → Calls Tryz.prog 58 #[.agg vx,.agg vy] w fun ev w' => ev = .returned (.agg rv) ∧ Below w.heap.size w w'):=hid (fun w h => by
    have:=hnode_any x y w hl1 hl2 h.tab
    rw [hrv,hvx,hvy] at this;exact this)
   rw [hrv]
   have IHB:Hid (∀ w,TreePre a B base b0 Bl Bt v L w → Calls Tryz.prog 88 #[.int .u64 b,.int .u64 (b+k),.pointer (some ⟨Bl,0,none⟩),.pointer (some ⟨Bt,0,none⟩)] w fun ev w' => ev = .returned (.agg vx) ∧ Below w.heap.size w w'):=hid ihb
   have IHE:Hid (∀ w,TreePre a B base b0 Bl Bt v L w → Calls Tryz.prog 88 #[.int .u64 (b+k),.int .u64 e,.pointer (some ⟨Bl,0,none⟩),.pointer (some ⟨Bt,0,none⟩)] w fun ev w' => ev = .returned (.agg vy) ∧ Below w.heap.size w w'):=hid ihe
   clear ih ihb ihe hrv hvx hvy hx hy hl1 hl2 hkk hp hkf
   have HP:=hid hP
   have hbe:b ≤ e:=by omega
   have hd2:(2:Int) ≤ e - b:=by omega
   have he9:e < 18446744073709551616:=by omega
   have hwk:IntKind.u64.wrap (b+k) = b+k:=IntWalk.u64_in _ (by omega)
   clear hP
   have hBa:Hid (Below w.heap.size w (w.alloc (.cells (List.replicate 32 (Value.int .u8 0)).toArray 39))):=hid ((Below.refl _ _).alloc (Nat.le_refl _) _)
   have hRa:Hid (IRow (w.alloc (.cells (List.replicate 32 (Value.int .u8 0)).toArray 39)) w.heap.size .u8 39 (List.replicate 32 0)):=hid (irow_new _ _ _ _ (by simp))
   obtain ⟨wa,hwa⟩:∃ wa,w.alloc (.cells (List.replicate 32 (Value.int .u8 0)).toArray 39) = wa:=⟨_,rfl⟩
   have HSA:=hid (show w.heap.size+1 = wa.heap.size by rw [← hwa];simp)
   rw [hwa] at hBa hRa
   simp only [List.replicate,List.toArray] at hwa
   have HWA:=hid hwa
   clear hwa
   have PA:Hid (TreePre a B base b0 Bl Bt v L wa):=hid (HP.out.below hBa.out)
   have c1:=PA.out.bt
   have hsa:w.heap.size < wa.heap.size:=by have:=HSA.out;omega
   have HWK:=hid hwk
   clear hwk
   go_enter Tryz.func88,Tryz.ntmps88
   go_upto_region 1 with fail
   rw [HWA.out]
   go_wp2_with (go_at_call 52;refine (hSp.out _).mono ?_;rintro ev w' ⟨rfl,rfl⟩)
   go_wp2_with fail
   have g0:Gr w wa:=hBa.out
   have hwk:=HWK.out
   refine wp_region_held_drew (S:=Gr w) (by kernel_rfl) (Gr.drew g0) (fun hHeld => ?_)
   refine tk (i:=0) (v:=?v1) rfl ?y1 ?r1
   case y1 => (intro w hSw;(try dsimp only at hSw);have q9:=cell_below hSw HP.out.bt (block_of_cell HP.out.bt);go_simp;(try with_reducible rfl))
   try simp only [pu]
   refine tk (i:=1) (v:=?v2) rfl ?y2 ?r2
   case y2 => (intro w hSw;(try dsimp only at hSw);go_simp;(try with_reducible rfl))
   try simp only [pu]
   refine tk (i:=2) (v:=?v3) rfl ?y3 ?r3
   case y3 => (intro w hSw;(try dsimp only at hSw);go_simp;(try with_reducible rfl))
   try simp only [pu]
   refine tk (i:=3) (v:=?v4) rfl ?y4 ?r4
   case y4 => (intro w hSw;(try dsimp only at hSw);go_simp;(try with_reducible rfl))
   try simp only [pu]
   refine tk (i:=4) (v:=?v5) rfl ?y5 ?r5
   case y5 => (intro w hSw;(try dsimp only at hSw);go_simp;(try with_reducible rfl))
   try simp only [pu]
   refine tk (i:=6) (v:=?v6) rfl ?y6 ?r6
   case y6 => (intro w hSw;(try dsimp only at hSw);have q9:=cell_below hSw HP.out.bt (block_of_cell HP.out.bt);go_simp;(try with_reducible rfl))
   try simp only [pu]
   refine tk (i:=7) (v:=?v7) rfl ?y7 ?r7
   case y7 => (intro w hSw;(try dsimp only at hSw);go_simp;(try with_reducible rfl))
   try simp only [pu]
   refine tk (i:=8) (v:=?v8) rfl ?y8 ?r8
   case y8 => (intro w hSw;(try dsimp only at hSw);go_simp;(try with_reducible rfl))
   try simp only [pu]
   refine tk (i:=9) (v:=?v9) rfl ?y9 ?r9
   case y9 => (intro w hSw;(try dsimp only at hSw);go_simp;(try with_reducible rfl))
   try simp only [pu]
   refine tk (i:=10) (v:=?v10) rfl ?y10 ?r10
   case y10 => (intro w hSw;(try dsimp only at hSw);go_simp;(try with_reducible rfl))
   try simp only [pu]
   refine wpAnyH_ready (rs:=[5]) (by kernel_rfl) (by simp) ?_
   refine AllReadyH.cons (i:=5) rfl (fun K2 hK2 => ?_) AllReadyH.nil
   go_simp
   go_at_call 88
   refine (IHB.out wa.drew (HP.out.below (show Gr w wa.drew from (by repeat (first | exact Gr.refl _ | (refine Gr.step ?_ (by assumption)) | (refine Gr.alloc ?_ _) | (refine Gr.drew ?_)))))).mono ?_
   rintro ev w101 ⟨rfl,b101⟩
   try go_wp2_with fail
   refine hK2.out _ _ (show Gr w _ from (by repeat (first | exact Gr.refl _ | (refine Gr.step ?_ (by assumption)) | (refine Gr.alloc ?_ _) | (refine Gr.drew ?_)))) (fun hHeld2 => ?_)
   clear hK2 K2
   try simp only [pu]
   refine wpAnyH_ready (rs:=[11]) (by kernel_rfl) (by simp) ?_
   refine AllReadyH.cons (i:=11) rfl (fun K2 hK2 => ?_) AllReadyH.nil
   go_simp
   go_at_call 88
   refine (IHE.out w101 (HP.out.below (show Gr w w101 from (by repeat (first | exact Gr.refl _ | (refine Gr.step ?_ (by assumption)) | (refine Gr.alloc ?_ _) | (refine Gr.drew ?_)))))).mono ?_
   rintro ev w102 ⟨rfl,b102⟩
   try go_wp2_with fail
   refine hK2.out _ _ (show Gr w _ from (by repeat (first | exact Gr.refl _ | (refine Gr.step ?_ (by assumption)) | (refine Gr.alloc ?_ _) | (refine Gr.drew ?_)))) (fun hHeld2 => ?_)
   clear hK2 K2
   try simp only [pu]
   refine wpAnyH_ready (rs:=[12]) (by kernel_rfl) (by simp) ?_
   refine AllReadyH.cons (i:=12) rfl (fun K2 hK2 => ?_) AllReadyH.nil
   go_simp
   go_at_call 58
   refine (HNODE.out w102 (HP.out.below (show Gr w w102 from (by repeat (first | exact Gr.refl _ | (refine Gr.step ?_ (by assumption)) | (refine Gr.alloc ?_ _) | (refine Gr.drew ?_))))).env).mono ?_
   rintro ev w103 ⟨rfl,b103⟩
   try go_wp2_with fail
   refine hK2.out _ _ (show Gr w _ from (by repeat (first | exact Gr.refl _ | (refine Gr.step ?_ (by assumption)) | (refine Gr.alloc ?_ _) | (refine Gr.drew ?_)))) (fun hHeld2 => ?_)
   clear hK2 K2
   try simp only [pu]
   refine wpAnyH_ready (rs:=[13]) (by kernel_rfl) (by simp) ?_
   refine AllReadyH.cons (i:=13) rfl (fun K2 hK2 => ?_) AllReadyH.nil
   rw [if_pos (by rfl)]
   refine wp_store_row 39 _ _ rfl w.heap.size rv rfl rfl 39 _ (hRa.out.below (show Gr wa w103 from (Gr.step (Gr.step (Gr.step (Gr.drew (Gr.refl _)) b101) b102) b103)) hsa) HI9.out (by rw [HS9.out];simp) HO9.out ?_
   refine hK2.out _ _ (show Gr w _ from below_setRow (show Gr w w103 from (by repeat (first | exact Gr.refl _ | (refine Gr.step ?_ (by assumption)) | (refine Gr.alloc ?_ _) | (refine Gr.drew ?_)))) _ _ (Nat.le_refl _)) (fun hHeld2 => ?_)
   clear hK2 K2
   try simp only [pu]
   refine wpAnyH_done (by kernel_rfl) ?_ _
   go_wp2
   refine bodyPost_ret (v:=.agg rv) (results_cell_row rfl _ _ w.heap.size 39 rv (0,0) _ rfl (setRow_heap _ _ _ _ _ _ (hRa.out.below (show Gr wa w103 from (Gr.step (Gr.step (Gr.step (Gr.drew (Gr.refl _)) b101) b102) b103)) hsa)) Tryz.underlying39 rfl HI9.out) rfl ⟨rfl,hHeld2⟩
theorem tree_bad (a:Nat → Addr) (B base b0:Nat) (v:Value) (L:List ByteArray) (b e:Int) (w:World) (hE:Env B a w) (h:LogAt base b0 v L w) (h0:0 ≤ b) (h1:b < 18446744073709551616) (h2:0 ≤ e) (h3:e < 18446744073709551616) (hbad:e < b ∨ (L.length:Int) < e) :
 Calls Tryz.prog 49 #[.pointer (some ⟨b0,0,none⟩),.agg #[.int .u64 b,.int .u64 e]] w fun ev w' => ev = .returned (.tuple #[hv zeroH,errV a 5]) ∧ Below w.heap.size w w':=by
 have HN0:e < b ∨ (L.length:Int) < e:=hbad
 clear hbad
 have hE':=hid hE
 have hLog:=hid h
 have c0:=h.c0
 have c1:=h.c1
 have hb0:=h.lt
 have hLm:=h.1.1
 have e5:=hE.laid.e5
 have g5:3 < w.heap.size:=block_of_cell e5
 obtain ⟨A,cap,rfl,hcap⟩:=own_shape h.2.2.2.1
 obtain ⟨wv,hwv⟩:∃ wv,((w.alloc (.cells #[.pointer (some ⟨b0,0,none⟩)] 27)).alloc (.cells #[.int .u64 b,.int .u64 e] 84)).alloc (.cells (List.replicate 32 (Value.int .u8 0)).toArray 39) = wv:=⟨_,rfl⟩
 have HBv:Hid (Gr w wv):=hid (by rw [← hwv];exact (((Below.refl _ _).alloc (Nat.le_refl _) _).alloc (by simp) _).alloc (by simp;omega) _)
 have HSV:Hid (wv.heap.size = w.heap.size+3):=hid (by rw [← hwv];simp)
 have HRv:Hid (wv.heap[w.heap.size+1+1]? = some (.cells (List.replicate 32 (Value.int .u8 0)).toArray 39 (0,0))):=hid (by rw [← hwv];exact heap_at _ _ _ (by simp))
 have r1:wv.heap[w.heap.size+1]? = some (.cells #[.int .u64 b,.int .u64 e] 84 (0,0)):=by
  rw [← hwv,((Below.refl _ _).alloc (Nat.le_refl _) _).block (w.heap.size+1) (by simp)];exact heap_at _ _ _ (by simp)
 have r0:wv.heap[w.heap.size]? = some (.cells #[.pointer (some ⟨b0,0,none⟩)] 27 (0,0)):=by
  rw [← hwv,(((Below.refl _ _).alloc (Nat.le_refl _) _).alloc (by simp) _).block w.heap.size (by simp)];exact heap_at _ _ _ rfl
 have p0:wv.cell? ⟨w.heap.size,0,none⟩ = some (.pointer (some ⟨b0,0,none⟩)):=by rw [cell_of_row wv w.heap.size 0 _ 27 (0,0) r0];rfl
 have s0:wv.cell? ⟨w.heap.size+1,0,none⟩ = some (.int .u64 b):=by rw [cell_of_row wv (w.heap.size+1) 0 _ 84 (0,0) r1];rfl
 have s1:wv.cell? ⟨w.heap.size+1,1,none⟩ = some (.int .u64 e):=by rw [cell_of_row wv (w.heap.size+1) 1 _ 84 (0,0) r1];rfl
 have q0:=cell_below HBv.out c0 hb0
 have q1:=cell_below HBv.out c1 hb0
 have q5:=cell_below HBv.out e5 g5
 have HWV:=hid hwv
 simp only [List.replicate,List.toArray] at HWV
 obtain ⟨n,hn⟩:∃ n,L.length = n:=⟨_,rfl⟩
 have HSZ:Hid (∀ k,Calls Tryz.prog 51 #[.pointer (some ⟨b0,0,none⟩)] (wv.drewN k) fun e w' => e = .returned (.int .u64 n) ∧ w' = wv.drewN k):=hid (fun k => by
  have:=lsize_any base b0 _ L (wv.drewN k) (hLog.out.below (below_drewN HBv.out))
  rw [hn] at this
  exact this.mono (fun _ _ h => ⟨h.1,h.2.symm⟩))
 rw [hn] at c0 q0 hcap hLm HN0
 have HN:=hid hn
 have hbx:(Tryz.prog.info? 84).map (·.size) = some 2:=by kernel_rfl
 have hl0:w.heap.size < wv.heap.size:=by have:=HSV.out;omega
 have hl1:w.heap.size+1 < wv.heap.size:=by have:=HSV.out;omega
 have hb0v:b0 < wv.heap.size:=by have:=HSV.out;omega
 have hg5v:3 < wv.heap.size:=by have:=HSV.out;omega
 clear h hE c0 c1 hb0 e5 g5 hwv r1 r0 hn
 obtain ⟨zv,ez,RZ,HZS,HZI,HZO⟩:=row_of zeroH zeroH_length
 have HZV:Hid (zv = #[.int .u8 0,.int .u8 0,.int .u8 0,.int .u8 0,.int .u8 0,.int .u8 0,.int .u8 0,.int .u8 0,.int .u8 0,.int .u8 0,.int .u8 0,.int .u8 0,.int .u8 0,.int .u8 0,.int .u8 0,.int .u8 0,.int .u8 0,.int .u8 0,.int .u8 0,.int .u8 0,.int .u8 0,.int .u8 0,.int .u8 0,.int .u8 0,.int .u8 0,.int .u8 0,.int .u8 0,.int .u8 0,.int .u8 0,.int .u8 0,.int .u8 0,.int .u8 0]):=hid (by rw [zeroH_v] at ez;cases ez;rfl)
 rw [ez]
 clear ez
 by_cases hlt:e < b
 ·have hd:decide (e < b) = true:=by simpa using hlt
  all_goals
   clear HN0
   go_enter Tryz.func49,Tryz.ntmps49
   go_upto_region 1 with fail
   rw [HWV.out]
   go_wp2_with fail
   go_quiet ((go_at_call 51;exact Calls.quiet_of_same (HSZ.out _)))
   go_wp2_with fail
   obtain ⟨wq,hwq⟩:∃ wq,wv.drewN nq = wq:=⟨_,rfl⟩
   have bq:Gr w wq:=by rw [← hwq];exact below_drewN HBv.out
   have HRq:Hid (wq.heap[w.heap.size+1+1]? = some (.cells (List.replicate 32 (Value.int .u8 0)).toArray 39 (0,0))):=hid (by rw [← hwq];exact HRv.out)
   rw [hwq]
   clear hwq
   refine wp_region_held_drew (S:=Gr w) (by kernel_rfl) (Gr.drew bq) (fun hHeld => ?_)
   refine tw (i:=0) rfl (show YieldsIf _ _ _ _ (.agg zv) _ from .inl ⟨by rfl,fun w h => by rw [HZV.out];kernel_rfl⟩) ?_
   try simp only [pu]
   refine tk (i:=1) (v:=?v12) rfl ?y12 ?r12
   case y12 => (intro w hSw;(try dsimp only at hSw);have q9:=cell_below hSw (hE'.out.laid.e5) (block_of_cell hE'.out.laid.e5);go_simp;(try with_reducible rfl))
   try simp only [pu]
   refine wpAnyH_ready (rs:=[2]) (by kernel_rfl) (by simp) ?_
   refine AllReadyH.cons (i:=2) rfl (fun K2 hK2 => ?_) AllReadyH.nil
   rw [if_pos (by rfl)]
   refine wp_store_row 39 _ _ rfl (w.heap.size+1+1) zv rfl rfl 39 _ (HRq.out) HZI.out (by rw [HZS.out];simp) HZO.out ?_
   refine hK2.out _ _ (show Gr w _ from below_setRow (show Gr w wq.drew from (by repeat (first | exact Gr.refl _ | (refine Gr.step ?_ (by assumption)) | (refine Gr.alloc ?_ _) | (refine Gr.drew ?_)))) _ _ (by omega)) (fun hHeld2 => ?_)
   clear hK2 K2
   try simp only [pu]
   refine tk (i:=3) (v:=?v13) rfl ?y13 ?r13
   case y13 => (intro w hSw;(try dsimp only at hSw);go_simp;(try with_reducible rfl))
   try simp only [pu]
   refine wpAnyH_done (by kernel_rfl) ?_ _
   go_wp2
   refine bodyPost_ret (v:=.tuple #[.agg zv,errV a 5]) (results_row_tmp rfl _ _ (w.heap.size+1+1) 39 zv (0,0) _ rfl (setRow_heap wq.drew _ _ _ _ _ HRq.out) Tryz.underlying39 rfl HZI.out _ rfl) rfl ⟨rfl,hHeld2⟩
 ·have hd:decide (e < b) = false:=by simpa using hlt
  have hd2:(n:Int) < e:=by omega
  all_goals
   clear HN0 hlt
   go_enter Tryz.func49,Tryz.ntmps49
   go_upto_region 1 with fail
   rw [HWV.out]
   go_wp2_with fail
   go_quiet ((go_at_call 51;exact Calls.quiet_of_same (HSZ.out _)))
   go_wp2_with fail
   obtain ⟨wq,hwq⟩:∃ wq,wv.drewN nq = wq:=⟨_,rfl⟩
   have bq:Gr w wq:=by rw [← hwq];exact below_drewN HBv.out
   have HRq:Hid (wq.heap[w.heap.size+1+1]? = some (.cells (List.replicate 32 (Value.int .u8 0)).toArray 39 (0,0))):=hid (by rw [← hwq];exact HRv.out)
   rw [hwq]
   clear hwq
   refine wp_region_held_drew (S:=Gr w) (by kernel_rfl) (Gr.drew bq) (fun hHeld => ?_)
   refine tw (i:=0) rfl (show YieldsIf _ _ _ _ (.agg zv) _ from .inl ⟨by rfl,fun w h => by rw [HZV.out];kernel_rfl⟩) ?_
   try simp only [pu]
   refine tk (i:=1) (v:=?v15) rfl ?y15 ?r15
   case y15 => (intro w hSw;(try dsimp only at hSw);have q9:=cell_below hSw (hE'.out.laid.e5) (block_of_cell hE'.out.laid.e5);go_simp;(try with_reducible rfl))
   try simp only [pu]
   refine wpAnyH_ready (rs:=[2]) (by kernel_rfl) (by simp) ?_
   refine AllReadyH.cons (i:=2) rfl (fun K2 hK2 => ?_) AllReadyH.nil
   rw [if_pos (by rfl)]
   refine wp_store_row 39 _ _ rfl (w.heap.size+1+1) zv rfl rfl 39 _ (HRq.out) HZI.out (by rw [HZS.out];simp) HZO.out ?_
   refine hK2.out _ _ (show Gr w _ from below_setRow (show Gr w wq.drew from (by repeat (first | exact Gr.refl _ | (refine Gr.step ?_ (by assumption)) | (refine Gr.alloc ?_ _) | (refine Gr.drew ?_)))) _ _ (by omega)) (fun hHeld2 => ?_)
   clear hK2 K2
   try simp only [pu]
   refine tk (i:=3) (v:=?v16) rfl ?y16 ?r16
   case y16 => (intro w hSw;(try dsimp only at hSw);go_simp;(try with_reducible rfl))
   try simp only [pu]
   refine wpAnyH_done (by kernel_rfl) ?_ _
   go_wp2
   refine bodyPost_ret (v:=.tuple #[.agg zv,errV a 5]) (results_row_tmp rfl _ _ (w.heap.size+1+1) 39 zv (0,0) _ rfl (setRow_heap wq.drew _ _ _ _ _ HRq.out) Tryz.underlying39 rfl HZI.out _ rfl) rfl ⟨rfl,hHeld2⟩
theorem tree_ok (a:Nat → Addr) (B base b0:Nat) (v:Value) (L:List ByteArray) (b e:Int) (w:World) (hE:Env B a w) (h:LogAt base b0 v L w) (h0:0 ≤ b) (h1:b ≤ e) (h2:e ≤ (L.length:Int)) :
 Calls Tryz.prog 49 #[.pointer (some ⟨b0,0,none⟩),.agg #[.int .u64 b,.int .u64 e]] w fun ev w' => ev = .returned (.tuple #[hv (treeB L b e),.nilIface]) ∧ Below w.heap.size w w':=by
 have HN0:e ≤ (L.length:Int):=h2
 clear h2
 have hE':=hid hE
 have hLog:=hid h
 have c0:=h.c0
 have c1:=h.c1
 have hb0:=h.lt
 have hLm:=h.1.1
 have e5:=hE.laid.e5
 have g5:3 < w.heap.size:=block_of_cell e5
 obtain ⟨A,cap,rfl,hcap⟩:=own_shape h.2.2.2.1
 obtain ⟨wv,hwv⟩:∃ wv,((w.alloc (.cells #[.pointer (some ⟨b0,0,none⟩)] 27)).alloc (.cells #[.int .u64 b,.int .u64 e] 84)).alloc (.cells (List.replicate 32 (Value.int .u8 0)).toArray 39) = wv:=⟨_,rfl⟩
 have HBv:Hid (Gr w wv):=hid (by rw [← hwv];exact (((Below.refl _ _).alloc (Nat.le_refl _) _).alloc (by simp) _).alloc (by simp;omega) _)
 have HSV:Hid (wv.heap.size = w.heap.size+3):=hid (by rw [← hwv];simp)
 have HRv:Hid (wv.heap[w.heap.size+1+1]? = some (.cells (List.replicate 32 (Value.int .u8 0)).toArray 39 (0,0))):=hid (by rw [← hwv];exact heap_at _ _ _ (by simp))
 have r1:wv.heap[w.heap.size+1]? = some (.cells #[.int .u64 b,.int .u64 e] 84 (0,0)):=by
  rw [← hwv,((Below.refl _ _).alloc (Nat.le_refl _) _).block (w.heap.size+1) (by simp)];exact heap_at _ _ _ (by simp)
 have r0:wv.heap[w.heap.size]? = some (.cells #[.pointer (some ⟨b0,0,none⟩)] 27 (0,0)):=by
  rw [← hwv,(((Below.refl _ _).alloc (Nat.le_refl _) _).alloc (by simp) _).block w.heap.size (by simp)];exact heap_at _ _ _ rfl
 have p0:wv.cell? ⟨w.heap.size,0,none⟩ = some (.pointer (some ⟨b0,0,none⟩)):=by rw [cell_of_row wv w.heap.size 0 _ 27 (0,0) r0];rfl
 have s0:wv.cell? ⟨w.heap.size+1,0,none⟩ = some (.int .u64 b):=by rw [cell_of_row wv (w.heap.size+1) 0 _ 84 (0,0) r1];rfl
 have s1:wv.cell? ⟨w.heap.size+1,1,none⟩ = some (.int .u64 e):=by rw [cell_of_row wv (w.heap.size+1) 1 _ 84 (0,0) r1];rfl
 have q0:=cell_below HBv.out c0 hb0
 have q1:=cell_below HBv.out c1 hb0
 have q5:=cell_below HBv.out e5 g5
 have HWV:=hid hwv
 simp only [List.replicate,List.toArray] at HWV
 obtain ⟨n,hn⟩:∃ n,L.length = n:=⟨_,rfl⟩
 have HSZ:Hid (∀ k,Calls Tryz.prog 51 #[.pointer (some ⟨b0,0,none⟩)] (wv.drewN k) fun e w' => e = .returned (.int .u64 n) ∧ w' = wv.drewN k):=hid (fun k => by
  have:=lsize_any base b0 _ L (wv.drewN k) (hLog.out.below (below_drewN HBv.out))
  rw [hn] at this
  exact this.mono (fun _ _ h => ⟨h.1,h.2.symm⟩))
 rw [hn] at c0 q0 hcap hLm HN0
 have HN:=hid hn
 have hbx:(Tryz.prog.info? 84).map (·.size) = some 2:=by kernel_rfl
 have hl0:w.heap.size < wv.heap.size:=by have:=HSV.out;omega
 have hl1:w.heap.size+1 < wv.heap.size:=by have:=HSV.out;omega
 have hb0v:b0 < wv.heap.size:=by have:=HSV.out;omega
 have hg5v:3 < wv.heap.size:=by have:=HSV.out;omega
 clear h hE c0 c1 hb0 e5 g5 hwv r1 r0 hn
 have hd:decide (e < b) = false:=by simp;omega
 have hd2:decide ((n:Int) < e) = false:=by simp;omega
 have hbe:=h1
 have HN1:=hid (And.intro h1 HN0)
 clear h1
 by_cases heq:b = e
 ·have ht:treeB L b e = shaB []:=by unfold treeB;rw [if_pos heq]
  rw [ht]
  obtain ⟨rv,hrv,RE,HS9,HI9,HO9⟩:=row_of (shaB []) (shaB_length _)
  rw [hrv]
  have HEM:Hid (∀ w,Env B a w → Calls Tryz.prog 87 #[] w fun ev w' => ev = .returned (.agg rv) ∧ Below w.heap.size w w'):=hid (fun w h => by
   have:=hempty_any w h.tab
   rw [hrv] at this;exact this)
  subst heq
  clear ht hrv
  all_goals
   go_enter Tryz.func49,Tryz.ntmps49
   go_upto_region 1 with fail
   rw [HWV.out]
   go_wp2_with fail
   go_quiet ((go_at_call 51;exact Calls.quiet_of_same (HSZ.out _)))
   go_wp2_with fail
   obtain ⟨wq,hwq⟩:∃ wq,wv.drewN nq = wq:=⟨_,rfl⟩
   have bq:Gr w wq:=by rw [← hwq];exact below_drewN HBv.out
   have HRq:Hid (wq.heap[w.heap.size+1+1]? = some (.cells (List.replicate 32 (Value.int .u8 0)).toArray 39 (0,0))):=hid (by rw [← hwq];exact HRv.out)
   rw [hwq]
   clear hwq
   refine (HEM.out wq (hE'.out.step bq)).mono ?_
   rintro ev w3 ⟨rfl,b3⟩
   have HR3:Hid (w3.heap[w.heap.size+1+1]? = some (.cells (List.replicate 32 (Value.int .u8 0)).toArray 39 (0,0))):=hid ((b3.block _ (Array.getElem?_eq_some_iff.1 HRq.out).1).trans HRq.out)
   go_wp2_with (refine wpList_store_row rfl 39 _ _ rfl (w.heap.size+1+1) rv rfl rfl 39 _ HR3.out HI9.out (by rw [HS9.out];simp) HO9.out ?_)
   refine bodyPost_ret (v:=.tuple #[.agg rv,.nilIface]) (results_row_tmp rfl _ _ (w.heap.size+1+1) 39 rv (0,0) _ rfl (setRow_heap _ _ _ _ _ _ HR3.out) Tryz.underlying39 rfl HI9.out _ rfl) rfl ⟨rfl,?_⟩
   exact below_setRow (show Gr w w3 from (by repeat (first | exact Gr.refl _ | (refine Gr.step ?_ (by assumption)) | (refine Gr.alloc ?_ _) | (refine Gr.drew ?_)))) _ _ (by omega)
 ·have heq':(b == e) = false:=by simpa using heq
  have ht:treeB L b e = treeF nodeH 64 (leafG L) b e:=by unfold treeB treeT;rw [if_neg heq]
  have hlen:=treeF_len L 64 b e
  have HT1:=hid (fun v w Bl Bt h => tree1_any a B base b0 Bl Bt v L 64 b e w h h0 (by omega) (by rw [HN.out];omega) (by rw [pow2_64];omega))
  rw [ht]
  obtain ⟨x,hx⟩:∃ x,treeF nodeH 64 (leafG L) b e = x:=⟨_,rfl⟩
  rw [hx] at hlen HT1 ⊢
  obtain ⟨rv,hrv,RE,HS9,HI9,HO9⟩:=row_of x hlen
  rw [hrv] at HT1 ⊢
  clear ht hx hlen hrv heq
  all_goals
   go_enter Tryz.func49,Tryz.ntmps49
   go_upto_region 1 with fail
   rw [HWV.out]
   go_wp2_with fail
   go_quiet ((go_at_call 51;exact Calls.quiet_of_same (HSZ.out _)))
   go_upto_region 7 with fail
   obtain ⟨wq,hwq⟩:∃ wq,wv.drewN nq = wq:=⟨_,rfl⟩
   have bq:Gr w wq:=by rw [← hwq];exact below_drewN HBv.out
   have HRq:Hid (wq.heap[w.heap.size+1+1]? = some (.cells (List.replicate 32 (Value.int .u8 0)).toArray 39 (0,0))):=hid (by rw [← hwq];exact HRv.out)
   have p0':wq.cell? ⟨w.heap.size,0,none⟩ = some (.pointer (some ⟨b0,0,none⟩)):=by rw [← hwq];exact p0
   have s0':wq.cell? ⟨w.heap.size+1,0,none⟩ = some (.int .u64 b):=by rw [← hwq];exact s0
   have s1':wq.cell? ⟨w.heap.size+1,1,none⟩ = some (.int .u64 e):=by rw [← hwq];exact s1
   have hsq:wq.heap.size = wv.heap.size:=by rw [← hwq];rfl
   rw [hwq]
   clear hwq p0 s0 s1 q0 q1 q5
   go_upto_region 9 with fail
   obtain ⟨wt,hwt⟩:∃ wt,wq.alloc (.cells #[.func (.func 88) #[] #[.pointer (some ⟨w.heap.size,0,none⟩),.pointer (some ⟨wv.heap.size,0,none⟩)]] 140) = wt:=⟨_,rfl⟩
   have bt:Below wq.heap.size wq wt:=by rw [← hwt];exact (Below.refl _ _).alloc (Nat.le_refl _) _
   have ct:wt.cell? ⟨wv.heap.size,0,none⟩ = some (.func (.func 88) #[] #[.pointer (some ⟨w.heap.size,0,none⟩),.pointer (some ⟨wv.heap.size,0,none⟩)]):=by rw [← hwt,← hsq];exact cell_new _ _ 0 _ rfl
   have p1:=cell_below bt p0' (by omega)
   have s0:=cell_below bt s0' (by omega)
   have s1:=cell_below bt s1' (by omega)
   have HPt:Hid (TreePre a B base b0 w.heap.size wv.heap.size _ L wt):=hid ⟨hE'.out.step (show Gr w wt from (by repeat (first | exact Gr.refl _ | (refine Gr.step ?_ (by assumption)) | (refine Gr.alloc ?_ _) | (refine Gr.drew ?_)))),hLog.out.below (show Gr w wt from (by repeat (first | exact Gr.refl _ | (refine Gr.step ?_ (by assumption)) | (refine Gr.alloc ?_ _) | (refine Gr.drew ?_)))),p1,ct⟩
   have HRt:Hid (wt.heap[w.heap.size+1+1]? = some (.cells (List.replicate 32 (Value.int .u8 0)).toArray 39 (0,0))):=hid ((bt.block _ (Array.getElem?_eq_some_iff.1 HRq.out).1).trans HRq.out)
   rw [hwt]
   clear hwt p0' s0' s1'
   go_wp2_with fail
   refine (HT1.out _ wt _ _ HPt.out).mono ?_
   rintro ev w3 ⟨rfl,b3⟩
   have HR3:Hid (w3.heap[w.heap.size+1+1]? = some (.cells (List.replicate 32 (Value.int .u8 0)).toArray 39 (0,0))):=hid ((b3.block _ (Array.getElem?_eq_some_iff.1 HRt.out).1).trans HRt.out)
   go_wp2_with (refine wpList_store_row rfl 39 _ _ rfl (w.heap.size+1+1) rv rfl rfl 39 _ HR3.out HI9.out (by rw [HS9.out];simp) HO9.out ?_)
   refine bodyPost_ret (v:=.tuple #[.agg rv,.nilIface]) (results_row_tmp rfl _ _ (w.heap.size+1+1) 39 rv (0,0) _ rfl (setRow_heap _ _ _ _ _ _ HR3.out) Tryz.underlying39 rfl HI9.out _ rfl) rfl ⟨rfl,?_⟩
   exact below_setRow (show Gr w w3 from (by repeat (first | exact Gr.refl _ | (refine Gr.step ?_ (by assumption)) | (refine Gr.alloc ?_ _) | (refine Gr.drew ?_)))) _ _ (by omega)
end Go.Proofs.YtpdkpdpkggepcaaGreatDoor
