/- naive.Log.hashes, Path, Proof, Batch, Root. Condition: the package-level variables read as listed. -/
import Derived.Test.YtpdkpdpkggepcaaGreatDoorNaiveTree
import Derived.Test.YtpdkpdpkggepcaaGreatDoorSpanPlain
namespace Go.Proofs.YtpdkpdpkggepcaaGreatDoor
open Go.ChangeShapes Go.WideShapes Go.ChangeAt Go.RowKit
set_option maxRecDepth 100000
set_option maxHeartbeats 4000000
open Lib (hid)
set_option linter.unusedVariables false
theorem is_nilerr (x:Addr) (w:World):Calls Tryz.prog 100 #[.nilIface,.iface 203 (.pointer (some x))] w fun e w' => e = .returned (.bool false) ∧ w = w':=by
 have hq:=fun w => run_eql_iface_nil_left (P:=Tryz.prog) (w:=w) 203 (.pointer (some x)) Tryz.underlying48
 go_enter Tryz.func100,Tryz.ntmps100
 go_wp2
 go_ret
 exact ⟨rfl,rfl⟩
def treesB (L:List ByteArray) (l:List (Int × Int)):List (List UInt8):=l.map fun p => treeB L p.1 p.2
theorem treesB_h32 (L:List ByteArray) (l:List (Int × Int)):H32 (treesB L l):=fun x hx => by
 obtain ⟨p,_,rfl⟩:=List.mem_map.1 hx
 exact treeB_len L p.1 p.2
theorem treesB_len (L:List ByteArray) (l:List (Int × Int)):(treesB L l).length = l.length:=by simp [treesB]
theorem hashes_ok (a:Nat → Addr) (B base b0:Nat) (v:Value) (L:List ByteArray) (sz:Int) (l:List (Int × Int)) (sv:Value) (w:World) (hE:Env B a w) (h:LogAt base b0 v L w) (h0:0 ≤ sz) (h1:sz ≤ (L.length:Int)) (hsv:Rd w sv 2 l.length (spanCells l)) (hl:SpansIn l sz) (hlm:l.length ≤ 1000) :
 Calls Tryz.prog 71 #[.pointer (some ⟨b0,0,none⟩),.int .u64 sz,sv,.nilIface] w (HashesPost w (treesB L l)):=by
 have c1:=h.c1
 have e5:=hE.laid.e5
 have g5:3 < w.heap.size:=block_of_cell e5
 have HZ:=hid (fun w h => lsize_any base b0 v L w h)
 have HL:=hid h
 have HE:=hid hE
 have hLm:=h.1.1
 obtain ⟨n,hn⟩:∃ n,L.length = n:=⟨_,rfl⟩
 have HN:=hid hn
 have HS1:=hid (show sz ≤ (L.length:Int) from h1)
 rw [hn] at h1 hLm
 have hd:decide ((n:Int) < sz) = false:=by simp;omega
 have h9:sz < 18446744073709551616:=by omega
 obtain ⟨i0,hi,hz0,hz1,hz2⟩:=info_parts info_hash
 have HL32:=hid (treesB_h32 L l)
 obtain ⟨_,As,cs,rfl,hsr⟩:=hsv
 obtain ⟨m,hm⟩:∃ m,l.length = m:=⟨_,rfl⟩
 have HM:=hid hm
 rw [hm] at hsr hlm ⊢
 have HSR:=hid hsr
 have HLI:=hid hl
 unfold errV at e5
 have hbx:(Tryz.prog.info? 84).map (·.size) = some 2:=by kernel_rfl
 have HIS:Hid (∀ w,Calls Tryz.prog 100 #[.nilIface,.iface 203 (.pointer (some (a 5)))] w fun e w' => e = .returned (.bool false) ∧ w = w'):=hid (fun w => is_nilerr (a 5) w)
 clear h hE hn h1 hsr hl hm
 go_enter Tryz.func71,Tryz.ntmps71
 go_wp2_with (first | (go_at_call 51;refine (HZ.out _ HL.out).mono ?_;rintro ev w' ⟨rfl,rfl⟩;rw [HN.out]) | (go_at_call 100;refine (HIS.out _).mono ?_;rintro ev w' ⟨rfl,rfl⟩))
 go_loopw [10,39] (fun o i wr => ∃ k Aq cq,k ≤ m ∧ i = .int .i64 (k:Nat) ∧ o = .slice Aq k cq ∧ k ≤ cq ∧ Hid (wr.ownsRow w.heap.size 39 32 (.slice Aq k cq) k (hashCells ((treesB L l).take k))) ∧ Hid (Gr w wr)) (fun _ i _ => m - (intOf i).toNat)
 case atStart => exact ⟨0,none,0,Nat.zero_le _,rfl,rfl,Nat.le_refl _,hid (by simpa [hashCells] using World.ownsRow_nil _ _ _ _),hid (Gr.refl _)⟩
 case round =>
  obtain ⟨k,Aq,cq,hk,rfl,rfl,hkc,HO,HG⟩:=hrel
  by_cases hlt:k < m
  ·obtain ⟨g,rfl,hcc⟩:∃ g,As = some ⟨g,0,none⟩ ∧ ∀ j u,(spanCells l)[j]? = some u → w.cell? ⟨g,j,none⟩ = some u:=by
    rcases HSR.out with q | q
    ·omega
    ·exact q
   obtain ⟨⟨pb,pe⟩,hp⟩:∃ p,l[k]? = some p:=⟨_,List.getElem?_eq_getElem (by have:=HM.out;omega)⟩
   have hat:=spanCells_at l k (pb,pe) hp
   have s0:=cell_below HG.out (hcc _ _ hat.1) (block_of_cell (hcc _ _ hat.1))
   have s1:=cell_below HG.out (hcc _ _ hat.2) (block_of_cell (hcc _ _ hat.2))
   have hin:=HLI.out (pb,pe) (List.mem_of_getElem? hp)
   simp only at hin s0 s1
   obtain ⟨x,hx⟩:∃ x,treeB L pb pe = x:=⟨_,rfl⟩
   have hxl:x.length = 32:=by rw [← hx];exact treeB_len L pb pe
   have HTK:Hid ((treesB L l).take (k+1) = (treesB L l).take k ++ [x]):=hid (by
    rw [List.take_add_one];unfold treesB;rw [List.getElem?_map,hp,← hx];rfl)
   obtain ⟨outk,houtk⟩:∃ o,(treesB L l).take k = o:=⟨_,rfl⟩
   rw [houtk] at HO HTK
   obtain ⟨vx,evx,EX,ZX,IX,OX⟩:=row_of x hxl
   have HX:=hid (And.intro hxl EX.out)
   have HTREE:Hid (∀ w,Env B a w → LogAt base b0 v L w → Calls Tryz.prog 49 #[.pointer (some ⟨b0,0,none⟩),.agg #[.int .u64 pb,.int .u64 pe]] w fun ev w' => ev = .returned (.tuple #[.agg vx,.nilIface]) ∧ Below w.heap.size w w'):=hid (fun w h1 h2 => by
    have:=tree_ok a B base b0 v L pb pe w h1 h2 hin.1 (by omega) (by have:=HS1.out;omega)
    rw [hx,evx] at this;exact this)
   have i1:(k:Int) < m:=by omega
   have i0':(0:Int) ≤ k:=by omega
   have gW:Gr w wr:=HG.out
   have hws:=gW.size
   clear hp hat hcc hin hx hxl houtk evx
   go_upto_region 9 with fail
   obtain ⟨ws,hws'⟩:∃ ws,wr.alloc (.cells #[.int .u64 pb,.int .u64 pe] 84) = ws:=⟨_,rfl⟩
   have b0':Below wr.heap.size wr ws:=by rw [← hws'];exact (Below.refl _ _).alloc (Nat.le_refl _) _
   have t0:ws.cell? ⟨wr.heap.size,0,none⟩ = some (.int .u64 pb):=by rw [← hws'];exact cell_new _ _ 0 _ rfl
   have t1:ws.cell? ⟨wr.heap.size,1,none⟩ = some (.int .u64 pe):=by rw [← hws'];exact cell_new _ _ 1 _ rfl
   rw [hws']
   clear hws'
   go_wp2_with fail
   refine (HTREE.out ws (HE.out.step (show Gr w ws from (by repeat (first | exact Gr.refl _ | (refine Gr.step ?_ (by assumption)) | (refine Gr.alloc ?_ _) | (refine Gr.drew ?_))))) (HL.out.below (show Gr w ws from (by repeat (first | exact Gr.refl _ | (refine Gr.step ?_ (by assumption)) | (refine Gr.alloc ?_ _) | (refine Gr.drew ?_)))))).mono ?_
   rintro ev w1 ⟨rfl,b1⟩
   go_upto_region 10 with (refine wpList_store_row_any rfl 39 _ _ rfl w1.heap.size vx rfl rfl 39 _ (heap_at _ _ _ rfl) IX.out (by rw [ZX.out];rfl) OX.out ?_;intro w2 hbN hgN hsN;have b2:Below w1.heap.size w1 w2:=((Below.refl _ w1).alloc (Nat.le_refl _) _).trans (hbN.to_below (by simp) (fun k hk q => by omega));have R2:=hid hgN;clear hbN hgN hsN)
   have bW2:Hid (Gr wr w2):=hid (show Gr wr w2 from (by repeat (first | exact Gr.refl _ | (refine Gr.step ?_ (by assumption)) | (refine Gr.alloc ?_ _) | (refine Gr.drew ?_))))
   have gW2:Hid (Gr w w2):=hid (show Gr w w2 from (by repeat (first | exact Gr.refl _ | (refine Gr.step ?_ (by assumption)) | (refine Gr.alloc ?_ _) | (refine Gr.drew ?_))))
   have HO2:Hid ((w2.alloc (.cells vx 39)).ownsRow w.heap.size 39 32 (.slice Aq k cq) k (hashCells outk)):=hid (own_below (own_below HO.out bW2.out (Nat.le_refl _)) ((Below.refl _ _).alloc (Nat.le_refl _) _) (Nat.le_refl _))
   clear s0 s1 t0 t1 b0' b1 b2 gW
   go_wp2_with (first
    | (refine wpList_load_row rfl 39 _ rfl w1.heap.size rfl 39 vx (0,0) _ R2.out Tryz.underlying39 rfl IX.out ?_)
    | (refine wpList_buildSlice_row rfl 24 39 _ vx _ 32 rfl rfl Tryz.underlying24 Tryz.sizeOf39 Tryz.zeroValue39 rfl ZX.out (by omega) (by omega) ?_)
    | (refine wpList_append_list rfl _ _ 24 rfl w.heap.size w2.heap.size 39 i0 _ 32 32 Tryz.underlying24 hi hz0 hz1 hz2 rfl (by omega) (.slice Aq k cq) _ k 1 (hashCells outk) (hashCells [x]) rfl rfl (HO2.out) (own_one w2 w2.heap.size vx x HX.out.1 HX.out.2 (Nat.le_refl _)) (hashCells_cell _) (by unfold maxLen;omega) (by omega) (by simp;have:=bW2.out.size;omega) ?_;intro v' w9 hown hgrow hblk;obtain ⟨A9,c9,rfl,hc9⟩:=own_shape hown;have HN9:=hid (And.intro hown (And.intro hgrow hblk));clear hown hgrow hblk))
   go_roundw
   case rel => exact ⟨k+1,A9,c9,by omega,by go_num,rfl,hc9,hid (own_congr HN9.out.1 rfl (by rw [HTK.out,hashCells_append])),hid ((((Below.refl _ w2).alloc (Nat.le_refl _) _).mono gW2.out.size |> gW2.out.trans).grown HN9.out.2.1 (by simp;have:=gW2.out.size;omega) (fun q hq => (HO2.out.lt q hq).1))⟩
   case measure => simp [intOf];omega
  ·obtain rfl:k = m:=by omega
   have HT1:Hid ((treesB L l).take k = treesB L l):=hid (List.take_of_length_le (by rw [treesB_len,HM.out];omega))
   go_wp2
   refine bodyPost_ret (v:=.tuple #[.slice Aq k cq,.nilIface]) (by simp [results,Tryz.results71,go_sem]) rfl ⟨HL32.out,.slice Aq k cq,rfl,?_,HG.out⟩
   rw [treesB_len,HM.out,← HT1.out]
   exact HO.out
theorem lroot_ok (a:Nat → Addr) (B base b0:Nat) (v:Value) (L:List ByteArray) (sz:Int) (w:World) (hE:Env B a w) (h:LogAt base b0 v L w) (h0:0 ≤ sz) (h1:sz ≤ (L.length:Int)) :
 Calls Tryz.prog 20 #[.pointer (some ⟨b0,0,none⟩),.int .u64 sz] w fun ev w' => ev = .returned (.tuple #[hv (treeB L 0 sz),.nilIface]) ∧ Below w.heap.size w w':=by
 have hBa:Hid (Below w.heap.size w (w.alloc (.cells (List.replicate 32 (Value.int .u8 0)).toArray 39))):=hid ((Below.refl _ _).alloc (Nat.le_refl _) _)
 have HG:=hid (heap_at w (.cells (List.replicate 32 (Value.int .u8 0)).toArray 39) w.heap.size rfl)
 have hsw:w.heap.size < (w.alloc (.cells (List.replicate 32 (Value.int .u8 0)).toArray 39)).heap.size:=by simp
 obtain ⟨wa,hwa⟩:∃ wa,w.alloc (.cells (List.replicate 32 (Value.int .u8 0)).toArray 39) = wa:=⟨_,rfl⟩
 rw [hwa] at hBa HG hsw
 have hst:=tree_ok a B base b0 v L 0 sz wa (hE.step hBa.out) (h.below hBa.out) (by omega) h0 h1
 have HWA:=hid hwa
 simp only [List.replicate,List.toArray] at HWA
 obtain ⟨vx,evx,EX,ZX,IX,OX⟩:=row_of (treeB L 0 sz) (treeB_len L 0 sz)
 rw [evx] at hst ⊢
 have HST:=hid hst
 clear hE h hwa hst evx
 go_enter Tryz.func20,Tryz.ntmps20
 go_upto_region 1 with fail
 rw [HWA.out]
 go_wp2_with fail
 refine HST.out.mono ?_
 rintro ev w1 ⟨rfl,hb⟩
 have HG1:=hid ((hb.block _ hsw).trans HG.out)
 have HB:=hid hb
 clear hb
 go_wp2_with (refine wpList_store_row rfl 39 _ _ rfl w.heap.size vx rfl rfl 39 _ HG1.out IX.out (by rw [ZX.out];simp) OX.out ?_)
 refine bodyPost_ret (v:=.tuple #[.agg vx,.nilIface]) (results_row_tmp rfl _ _ w.heap.size 39 vx (0,0) _ rfl (setRow_heap _ _ _ _ _ _ HG1.out) Tryz.underlying39 rfl IX.out _ rfl) rfl ⟨rfl,?_⟩
 exact below_setRow (hBa.out.trans (HB.out.mono (by omega))) _ _ (by omega)
theorem lpath_ok (a:Nat → Addr) (B base b0:Nat) (v:Value) (L:List ByteArray) (ix sz:Int) (w:World) (hE:Env B a w) (h:LogAt base b0 v L w) (h0:0 ≤ ix) (h1:ix < sz) (h2:sz ≤ (L.length:Int)) :
 Calls Tryz.prog 36 #[.pointer (some ⟨b0,0,none⟩),.int .u64 ix,.int .u64 sz] w (HashesPost w (treesB L (pathL 64 ix 0 sz))):=by
 have hLm:=h.1.1
 have HOK:=hid (path_ok ix sz w h0 h1 (by omega))
 have HIN:=hid (path_spansIn ix sz h0 h1 (by omega))
 have HLEN:Hid ((pathL 64 ix 0 sz).length ≤ 1000):=hid (by have:=pathL_len 64 ix 0 sz;omega)
 have HH:=hid (fun sv w1 (hb:Below w.heap.size w w1) hr => hashes_ok a B base b0 v L sz (pathL 64 ix 0 sz) sv w1 (hE.step hb) (h.below hb) (by omega) h2 hr HIN.out HLEN.out)
 obtain ⟨lst,hlst⟩:∃ l,(pathL 64 ix 0 sz) = l:=⟨_,rfl⟩
 rw [hlst] at HOK HH ⊢
 have hs0:0 ≤ sz:=by omega
 have hs9:sz < 18446744073709551616:=by omega
 clear hE h hlst
 go_enter Tryz.func36,Tryz.ntmps36
 go_wp2_with fail
 refine HOK.out.mono ?_
 rintro ev w1 ⟨sv,rfl,hown,hb⟩
 have HR:=hid (rd_own hown)
 have HB:=hid hb
 obtain ⟨As,cs,rfl,hcs⟩:=own_shape hown
 clear hown hb
 go_wp2_with fail
 refine (HH.out _ w1 HB.out HR.out).mono ?_
 rintro ev w2 ⟨h32,v2,rfl,hown2,hb2⟩
 obtain ⟨A2,c2,rfl,hc2⟩:=own_shape hown2
 have HX:=hid (And.intro h32 (And.intro hown2 hb2))
 clear h32 hown2 hb2
 go_wp2
 refine bodyPost_ret (v:=.tuple #[.slice A2 (treesB L lst).length c2,.nilIface]) (by simp [results,Tryz.results36,go_sem]) rfl ⟨HX.out.1,_,rfl,own_mono HX.out.2.1 HB.out.size,HB.out.trans (HX.out.2.2.mono HB.out.size)⟩
theorem lproof_ok (a:Nat → Addr) (B base b0:Nat) (v:Value) (L:List ByteArray) (ix sz:Int) (w:World) (hE:Env B a w) (h:LogAt base b0 v L w) (h0:0 < ix) (h1:ix ≤ sz) (h2:sz ≤ (L.length:Int)) :
 Calls Tryz.prog 37 #[.pointer (some ⟨b0,0,none⟩),.int .u64 ix,.int .u64 sz] w (HashesPost w (treesB L (proofL 64 ix 0 sz))):=by
 have hLm:=h.1.1
 have HOK:=hid (proof_ok ix sz w h0 h1 (by omega))
 have HIN:=hid (proof_spansIn ix sz h0 h1 (by omega))
 have HLEN:Hid ((proofL 64 ix 0 sz).length ≤ 1000):=hid (by have:=proofL_len 64 ix 0 sz;omega)
 have HH:=hid (fun sv w1 (hb:Below w.heap.size w w1) hr => hashes_ok a B base b0 v L sz (proofL 64 ix 0 sz) sv w1 (hE.step hb) (h.below hb) (by omega) h2 hr HIN.out HLEN.out)
 obtain ⟨lst,hlst⟩:∃ l,(proofL 64 ix 0 sz) = l:=⟨_,rfl⟩
 rw [hlst] at HOK HH ⊢
 have hs0:0 ≤ sz:=by omega
 have hs9:sz < 18446744073709551616:=by omega
 clear hE h hlst
 go_enter Tryz.func37,Tryz.ntmps37
 go_wp2_with fail
 refine HOK.out.mono ?_
 rintro ev w1 ⟨sv,rfl,hown,hb⟩
 have HR:=hid (rd_own hown)
 have HB:=hid hb
 obtain ⟨As,cs,rfl,hcs⟩:=own_shape hown
 clear hown hb
 go_wp2_with fail
 refine (HH.out _ w1 HB.out HR.out).mono ?_
 rintro ev w2 ⟨h32,v2,rfl,hown2,hb2⟩
 obtain ⟨A2,c2,rfl,hc2⟩:=own_shape hown2
 have HX:=hid (And.intro h32 (And.intro hown2 hb2))
 clear h32 hown2 hb2
 go_wp2
 refine bodyPost_ret (v:=.tuple #[.slice A2 (treesB L lst).length c2,.nilIface]) (by simp [results,Tryz.results37,go_sem]) rfl ⟨HX.out.1,_,rfl,own_mono HX.out.2.1 HB.out.size,HB.out.trans (HX.out.2.2.mono HB.out.size)⟩
theorem lbatch_ok (a:Nat → Addr) (B base b0:Nat) (v:Value) (L:List ByteArray) (x y sz:Int) (w:World) (hE:Env B a w) (h:LogAt base b0 v L w) (h0:0 ≤ x) (h1:x < y) (h3:y ≤ sz) (h2:sz ≤ (L.length:Int)) :
 Calls Tryz.prog 38 #[.pointer (some ⟨b0,0,none⟩),.int .u64 x,.int .u64 y,.int .u64 sz] w (HashesPost w (treesB L (batchL 64 x y 0 sz))):=by
 have hLm:=h.1.1
 have HOK:=hid (batch_ok x y sz w h0 h1 h3 (by omega))
 have HIN:=hid (batch_spansIn x y sz h0 h1 h3 (by omega))
 have HLEN:Hid ((batchL 64 x y 0 sz).length ≤ 1000):=hid (by have:=batchL_len 64 x y 0 sz (by omega) (by rw [pow2_64];omega);omega)
 have HH:=hid (fun sv w1 (hb:Below w.heap.size w w1) hr => hashes_ok a B base b0 v L sz (batchL 64 x y 0 sz) sv w1 (hE.step hb) (h.below hb) (by omega) h2 hr HIN.out HLEN.out)
 obtain ⟨lst,hlst⟩:∃ l,(batchL 64 x y 0 sz) = l:=⟨_,rfl⟩
 rw [hlst] at HOK HH ⊢
 have hs0:0 ≤ sz:=by omega
 have hs9:sz < 18446744073709551616:=by omega
 have HZ:=hid (lsize_any base b0 v L w h)
 obtain ⟨n,hn⟩:∃ n,L.length = n:=⟨_,rfl⟩
 have HN:=hid hn
 rw [hn] at h2 hLm
 have hd:decide ((n:Int) < sz) = false:=by simp;omega
 clear hn h2
 clear hE h hlst
 go_enter Tryz.func38,Tryz.ntmps38
 go_wp2_with (go_at_call 51;refine HZ.out.mono ?_;rintro ev w0 ⟨rfl,rfl⟩;rw [HN.out])
 refine HOK.out.mono ?_
 rintro ev w1 ⟨sv,rfl,hown,hb⟩
 have HR:=hid (rd_own hown)
 have HB:=hid hb
 obtain ⟨As,cs,rfl,hcs⟩:=own_shape hown
 clear hown hb
 go_wp2_with fail
 refine (HH.out _ w1 HB.out HR.out).mono ?_
 rintro ev w2 ⟨h32,v2,rfl,hown2,hb2⟩
 obtain ⟨A2,c2,rfl,hc2⟩:=own_shape hown2
 have HX:=hid (And.intro h32 (And.intro hown2 hb2))
 clear h32 hown2 hb2
 go_wp2
 refine bodyPost_ret (v:=.tuple #[.slice A2 (treesB L lst).length c2,.nilIface]) (by simp [results,Tryz.results38,go_sem]) rfl ⟨HX.out.1,_,rfl,own_mono HX.out.2.1 HB.out.size,HB.out.trans (HX.out.2.2.mono HB.out.size)⟩
end Go.Proofs.YtpdkpdpkggepcaaGreatDoor
