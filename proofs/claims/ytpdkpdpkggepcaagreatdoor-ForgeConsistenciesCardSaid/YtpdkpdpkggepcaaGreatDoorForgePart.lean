import Derived.Test.YtpdkpdpkggepcaaGreatDoorMem
import Derived.Test.YtpdkpdpkggepcaaGreatDoorForgeClaim
import Derived.Great.BuildSlice
import Derived.MapKept
/- forge.claim.part: where the log and the claim part. Condition: the package-level variables read as listed. -/
namespace Go.Proofs.YtpdkpdpkggepcaaGreatDoor
open Go.ChangeShapes Go.WideShapes Go.ChangeAt Go.RowKit
set_option maxRecDepth 100000
set_option maxHeartbeats 16000000
open Lib (hid)
set_option linter.unusedVariables false
def logText (L:List ByteArray) (i:Int):List UInt8:=bOf (L.getD i.toNat ByteArray.empty)
def claimText (D:List ByteArray) (begin:Int) (i:Int):List UInt8:=bOf (D.getD (i - begin).toNat ByteArray.empty)
structure WalkPre (a:Nat → Addr) (B base b0:Nat) (v:Value) (L:List ByteArray) (C X0 mb:Nat) (begin:Int) (S:Option Addr) (n cap:Nat) (D:List ByteArray) (m:List ((Int × Int) × List UInt8)) (w:World):Prop where
 pre:ClaimPre a B base b0 v L C X0 (X0+4) (X0+3) mb begin S n cap D m w
 fa:∃ s,w.heap[X0+1]? = some (.cells #[.string s] 9 (0,0))
 fb:∃ s,w.heap[X0+2]? = some (.cells #[.string s] 9 (0,0))
 pw:w.heap[X0+5]? = some (.cells #[.func (.func 59) #[] #[.pointer (some ⟨X0,0,none⟩),.pointer (some ⟨X0+4,0,none⟩),.pointer (some ⟨X0+1,0,none⟩),.pointer (some ⟨X0+2,0,none⟩),.pointer (some ⟨X0+3,0,none⟩),.pointer (some ⟨X0+5,0,none⟩)]] 113 (0,0))
 low:B ≤ X0 ∧ C < X0 ∧ mb < X0 ∧ b0 < X0 ∧ (∀ g,v.ownBlock = some g → g < X0) ∧ (∀ g o,S = some ⟨g,o,none⟩ → g < X0)
theorem SIn.blk {w w':World} {A:Option Addr} {n cap:Nat} {l:List ByteArray} (h:SIn w A n cap l) (hb:∀ g o,A = some ⟨g,o,none⟩ → w'.heap[g]? = w.heap[g]?):SIn w' A n cap l:=by
 obtain ⟨h1,h2,h3,h4,h6,h5⟩:=h
 refine ⟨h1,h2,h3,h4,h6,?_⟩
 rcases h5 with h5 | ⟨g,o,h6,h7⟩
 ·exact .inl h5
 ·exact .inr ⟨g,o,h6,rangeAt_block (hb g o h6) h7⟩
theorem WalkPre.below {a:Nat → Addr} {B base b0:Nat} {v:Value} {L:List ByteArray} {C X0 mb:Nat} {begin:Int} {S:Option Addr} {n cap:Nat} {D:List ByteArray} {m:List ((Int × Int) × List UInt8)} {w w':World} (h:WalkPre a B base b0 v L C X0 mb begin S n cap D m w) (hb:Below w.heap.size w w'):WalkPre a B base b0 v L C X0 mb begin S n cap D m w' :=
 ⟨h.pre.below hb,h.fa.imp (fun _ q => (hb.block _ (Array.getElem?_eq_some_iff.1 q).1).trans q),h.fb.imp (fun _ q => (hb.block _ (Array.getElem?_eq_some_iff.1 q).1).trans q),(hb.block _ (Array.getElem?_eq_some_iff.1 h.pw).1).trans h.pw,h.low⟩
theorem WalkPre.but {a:Nat → Addr} {B base b0:Nat} {v:Value} {L:List ByteArray} {C X0 mb:Nat} {begin:Int} {S:Option Addr} {n cap:Nat} {D:List ByteArray} {m:List ((Int × Int) × List UInt8)} {w w':World} (h:WalkPre a B base b0 v L C X0 mb begin S n cap D m w) (q:But (fun q => q = X0+1 ∨ q = X0+2) w w') (fa:∃ s,w'.heap[X0+1]? = some (.cells #[.string s] 9 (0,0))) (fb:∃ s,w'.heap[X0+2]? = some (.cells #[.string s] 9 (0,0))):WalkPre a B base b0 v L C X0 mb begin S n cap D m w':=by
 have hx:X0 < w.heap.size:=(Array.getElem?_eq_some_iff.1 h.pre.p2).1
 obtain ⟨l1,l2,l3,l4,l5,l6⟩:=h.low
 have hB:Below X0 w w':=q.to_below (by omega) (fun k hk => by show ¬ (k = X0+1 ∨ k = X0+2);omega)
 have sm:∀ k,k < X0 ∨ k = X0 ∨ X0+2 < k → k < w.heap.size → w'.heap[k]? = w.heap[k]?:=fun k hk hl => q.same k hl (by show ¬ (k = X0+1 ∨ k = X0+2);omega)
 have s4:=(Array.getElem?_eq_some_iff.1 h.pre.pc).1
 have s3:=(Array.getElem?_eq_some_iff.1 h.pre.ps).1
 have s5:=(Array.getElem?_eq_some_iff.1 h.pw).1
 exact ⟨⟨h.pre.env.below (hB.mono l1),h.pre.log.kept (hB.block _ l4) (fun g hg => hB.block g (l5 g hg)),(hB.block C l2).trans h.pre.cl,(sm X0 (by omega) hx).trans h.pre.p2,(sm _ (by omega) s4).trans h.pre.pc,(sm _ (by omega) s3).trans h.pre.ps,h.pre.said.below hB l3,h.pre.data.blk (fun g o e => hB.block g (l6 g o e)),h.pre.small⟩,
  fa,fb,(sm _ (by omega) s5).trans h.pw,h.low⟩
def WalkPost (X0:Nat) (r:Option (List UInt8 × List UInt8)) (w:World) (ev:Ending) (w':World):Prop :=
 ∃ s t,ev = .returned (.bool r.isSome) ∧ w'.heap[X0+1]? = some (.cells #[.string s] 9 (0,0)) ∧ w'.heap[X0+2]? = some (.cells #[.string t] 9 (0,0)) ∧ (∀ x,r = some x → bOf s = x.1 ∧ bOf t = x.2) ∧ But (fun q => q = X0+1 ∨ q = X0+2) w w'
theorem walk_said (a:Nat → Addr) (B base b0:Nat) (v:Value) (L:List ByteArray) (C X0 mb:Nat) (begin:Int) (S:Option Addr) (n cap:Nat) (D:List ByteArray) (m:List ((Int × Int) × List UInt8)) (b e:Int) (h:List UInt8) (w:World) (hP:WalkPre a B base b0 v L C X0 mb begin S n cap D m w) (hb:PB (b,e)) (hh:saidL m (b,e) = some h) :
 Calls Tryz.prog 59 #[.agg #[.int .u64 b,.int .u64 e],.pointer (some ⟨X0,0,none⟩),.pointer (some ⟨X0+4,0,none⟩),.pointer (some ⟨X0+1,0,none⟩),.pointer (some ⟨X0+2,0,none⟩),.pointer (some ⟨X0+3,0,none⟩),.pointer (some ⟨X0+5,0,none⟩)] w (WalkPost X0 none w):=by
 have lh:h.length = 32:=said32 hP.pre.said _ _ hh
 obtain ⟨vq,evq,Hvq,Zvq,Ivq,Ovq⟩:=row_of h lh
 obtain ⟨x0,hx0⟩:∃ x,w.heap.size = x:=⟨_,rfl⟩
 have HP:=hid hP
 obtain ⟨wv,hwv⟩:∃ x,w.alloc (.cells #[.int .u64 b,.int .u64 e] 84) = x:=⟨_,rfl⟩
 have HB:Hid (Below w.heap.size w wv):=hid (by rw [← hwv];exact (Below.refl _ _).alloc (Nat.le_refl _) _)
 have HSV:Hid (wv.heap.size = x0+1):=hid (by rw [← hwv,← hx0];simp)
 have R0:Hid (wv.heap[x0]? = some (.cells #[.int .u64 b,.int .u64 e] 84 (0,0))):=hid (by rw [← hwv,← hx0];exact heap_at _ _ _ rfl)
 have HPV:=hid (HP.out.below HB.out)
 have HXX:Hid (X0+5 < x0):=hid (by rw [← hx0];exact (Array.getElem?_eq_some_iff.1 HP.out.pw).1)
 have KC1:Hid (∀ w',Gr wv w' → w'.cell? ⟨X0,0,none⟩ = some (.pointer (some ⟨C,0,none⟩)) ∧ w'.cell? ⟨C,1,none⟩ = some (.map (some mb)) ∧ w'.cell? ⟨C,2,none⟩ = some (.int .u64 begin) ∧ w'.cell? ⟨C,3,none⟩ = some (.slice S n cap) ∧ w'.cell? ⟨x0,0,none⟩ = some (.int .u64 b) ∧ w'.cell? ⟨x0,1,none⟩ = some (.int .u64 e)):=hid (fun w' h => by
  have hp:=HPV.out.pre.below h
  have hr:=(Below.block h x0 (by have:=HSV.out;omega)).trans R0.out
  obtain ⟨c1,c2,c3,c4,c5⟩:=hp.cells
  exact ⟨c1,c3,c4,c5,by rw [cell_of_row w' x0 0 _ 84 (0,0) hr];rfl,by rw [cell_of_row w' x0 1 _ 84 (0,0) hr];rfl⟩)
 have HWV:=hid hwv
 have X0e:=hid hx0
 have hbx:(Tryz.prog.info? 84).map (·.size) = some 2:=by kernel_rfl
 have HLK:Hid (∀ w',Gr wv w' → (Instr.lookup 68 (.map (some mb)) (.agg #[.int .u64 b,.int .u64 e]) true).run Tryz.prog w' = .ok (.tuple #[.agg vq,.bool true]) w'):=hid (fun w' g => by
  have:=said_look (HPV.out.pre.below g).said (b,e) hb
  rw [hh] at this
  simpa [evq,spanV] using this)
 clear hP hb hh evq lh hwv
 go_enter Tryz.func59,Tryz.ntmps59
 go_upto_region 1 with fail
 rw [HWV.out]
 (try simp only [hx0])
 go_upto_region 1 with fail
 refine wp_region_held_drew (S:=Gr wv) (by kernel_rfl) (Gr.refl wv).drew (fun hHeld => ?_)
 refine tk (i:=0) (v:=?v48) rfl ?y48 ?r48
 case y48 => (intro w hSw;(try dsimp only at hSw);obtain ⟨z0,z1,z2,z3,z4,z5⟩:=KC1.out w hSw;go_simp;(try with_reducible rfl))
 try simp only [pu]
 refine tk (i:=1) (v:=?v49) rfl ?y49 ?r49
 case y49 => (intro w hSw;(try dsimp only at hSw);go_simp;(try with_reducible rfl))
 try simp only [pu]
 refine tk (i:=2) (v:=?v50) rfl ?y50 ?r50
 case y50 => (intro w hSw;(try dsimp only at hSw);go_simp;(try with_reducible rfl))
 try simp only [pu]
 refine tk (i:=3) (v:=?v51) rfl ?y51 ?r51
 case y51 => (intro w hSw;(try dsimp only at hSw);obtain ⟨z0,z1,z2,z3,z4,z5⟩:=KC1.out w hSw;go_simp;(try with_reducible rfl))
 try simp only [pu]
 refine tk (i:=4) (v:=?v52) rfl ?y52 ?r52
 case y52 => (intro w hSw;(try dsimp only at hSw);obtain ⟨z0,z1,z2,z3,z4,z5⟩:=KC1.out w hSw;go_simp;(try with_reducible rfl))
 try simp only [pu]
 refine tw (i:=5) rfl (yieldsIf_lookup (by rfl) 68 _ _ (by rfl) (.map (some mb)) (by rfl) (.agg #[.int .u64 b,.int .u64 e]) (by rfl) _ (fun w h => HLK.out w h)) ?_
 try simp only [pu]
 refine tk (i:=6) (v:=?v54) rfl ?y54 ?r54
 case y54 => (intro w hSw;(try dsimp only at hSw);go_simp;(try with_reducible rfl))
 try simp only [pu]
 refine tk (i:=7) (v:=?v55) rfl ?y55 ?r55
 case y55 => (intro w hSw;(try dsimp only at hSw);go_simp;(try with_reducible rfl))
 try simp only [pu]
 refine tk (i:=8) (v:=?v56) rfl ?y56 ?r56
 case y56 => (intro w hSw;(try dsimp only at hSw);go_simp;(try with_reducible rfl))
 try simp only [pu]
 refine wpAnyH_ready (rs:=[9]) (by kernel_rfl) (by simp) ?_
 refine AllReadyH.cons (i:=9) rfl (fun K2 hK2 => ?_) AllReadyH.nil
 go_simp
 obtain ⟨wa,hwa⟩:∃ x,(wv.alloc (.cells (List.replicate 32 (Value.int .u8 0)).toArray 39)).drew = x:=⟨_,rfl⟩
 have ba:Below wv.heap.size wv wa:=by rw [← hwa];exact ((Below.refl _ wv).alloc (Nat.le_refl _) _).drew
 have Ra:Hid (wa.heap[wv.heap.size]? = some (.cells (List.replicate 32 (Value.int .u8 0)).toArray 39 (0,0))):=hid (by rw [← hwa];exact heap_at wv _ _ rfl)
 simp only [List.replicate] at hwa
 rw [hwa]
 clear hwa
 refine hK2.out _ _ (show Gr wv _ from (by repeat (first | exact Gr.refl _ | (refine Gr.step ?_ (by assumption)) | (refine Gr.alloc ?_ _) | (refine Gr.drew ?_)))) (fun hHeld2 => ?_)
 clear hK2 K2
 try simp only [pu]
 refine wpAnyH_ready (rs:=[10]) (by kernel_rfl) (by simp) ?_
 refine AllReadyH.cons (i:=10) rfl (fun K2 hK2 => ?_) AllReadyH.nil
 rw [if_pos (by rfl)]
 refine wp_store_row 39 _ _ rfl wv.heap.size vq rfl rfl 39 _ Ra.out Ivq.out (by rw [Zvq.out];simp) Ovq.out ?_
 refine hK2.out _ _ (show Gr wv _ from below_setRow (show Gr wv wa from (by repeat (first | exact Gr.refl _ | (refine Gr.step ?_ (by assumption)) | (refine Gr.alloc ?_ _) | (refine Gr.drew ?_)))) _ _ (Nat.le_refl _)) (fun hHeld2 => ?_)
 clear hK2 K2
 try simp only [pu]
 refine tk (i:=11) (v:=?v57) rfl ?y57 ?r57
 case y57 => (intro w hSw;(try dsimp only at hSw);go_simp;(try with_reducible rfl))
 try simp only [pu]
 refine wpAnyH_done (by kernel_rfl) ?_ _
 have HBa:Hid (Below wv.heap.size wv (wa.setRow wv.heap.size vq)):=hid (below_setRow (show Gr wv wa from (by repeat (first | exact Gr.refl _ | (refine Gr.step ?_ (by assumption)) | (refine Gr.alloc ?_ _) | (refine Gr.drew ?_)))) _ _ (Nat.le_refl _))
 have R6:Hid ((wa.setRow wv.heap.size vq).heap[wv.heap.size]? = some (.cells vq 39 (0,0))):=hid (setRow_heap _ _ _ _ _ _ Ra.out)
 obtain ⟨wl,hwl⟩:∃ x,wa.setRow wv.heap.size vq = x:=⟨_,rfl⟩
 rw [hwl] at HBa R6 ⊢
 clear hwl ba Ra hHeld hHeld2
 have HBL:Hid (Below w.heap.size w wl):=hid (HB.out.trans (HBa.out.mono HB.out.size))
 go_wp2
 go_ret
 obtain ⟨s,hs⟩:=(HP.out.below HBL.out).fa
 obtain ⟨t,ht⟩:=(HP.out.below HBL.out).fb
 exact ⟨s,t,rfl,hs,ht,(fun x hx => by cases hx),But.new HBL.out⟩
/- forge.claim.part: where the log and the claim part: a leaf, a node, any stretch. Condition: the package-level variables read as listed. -/
theorem wp_store_one {P:Program} {o:Oper} {a:Act} {w:World} {K:Act → World → Prop} {Q:Exit → Act → World → Prop} (ty:TypeId) (x y:Operand) (ho:o.op = .store ty x y)
 (g:Nat) (v:Value) (hx:a.eval x = .pointer (some ⟨g,0,none⟩)) (hy:a.eval y = v) (h1:v.oneCell' = true)
 (t:TypeId) (old:Value) (hg:w.heap[g]? = some (.cells #[old] t (0,0))) (hi:(P.info? ty).map (·.size) = some 1)
 (h:K (a.put o.dst undef) (w.setRow g #[v])):o.wp P a w K Q:=by
 unfold Oper.wp execOp
 simp only [ho,hx,hy,Instr.storeAt,Instr.sureAddr,Sem.run_bind,Sem.run_pure,Result.andThen_ok,run_storeVar_one w g t ty old v hg hi h1]
 exact h
theorem walk_leaf (a:Nat → Addr) (B base b0:Nat) (v:Value) (L:List ByteArray) (C X0 mb:Nat) (begin:Int) (S:Option Addr) (n cap:Nat) (D:List ByteArray) (m:List ((Int × Int) × List UInt8)) (b e:Int) (bn j:Nat) (x d:ByteArray) (w:World) (hP:WalkPre a B base b0 v L C X0 mb begin S n cap D m w) (hb:PB (b,e)) (hh:saidL m (b,e) = none) (h1:b < e) (h9:e ≤ 9223372036854775808) (h2:e - b < 2) (hg0:0 ≤ begin) (hbn:b = (bn:Int)) (hj:b = begin+(j:Int)) (hx:L[bn]? = some x) (hd:D[j]? = some d) :
 Calls Tryz.prog 59 #[.agg #[.int .u64 b,.int .u64 e],.pointer (some ⟨X0,0,none⟩),.pointer (some ⟨X0+4,0,none⟩),.pointer (some ⟨X0+1,0,none⟩),.pointer (some ⟨X0+2,0,none⟩),.pointer (some ⟨X0+3,0,none⟩),.pointer (some ⟨X0+5,0,none⟩)] w (WalkPost X0 (if bOf x = bOf d then none else some (0 :: bOf x,0 :: bOf d)) w):=by
 obtain ⟨out,hout⟩:∃ z,(if bOf x = bOf d then none else some (0 :: bOf x,0 :: bOf d)) = z:=⟨_,rfl⟩
 rw [hout]
 have hout:=hid hout
 obtain ⟨vq,evq,Hvq,Zvq,Ivq,Ovq⟩:=row_of zeroH zeroH_length
 obtain ⟨g,o,rfl,hdc,hdg,hds⟩:=hP.pre.data.at hd
 have hjn:j < n:=by have:=(List.getElem?_eq_some_iff.1 hd).1;have:=hP.pre.data.1;omega
 have hn9:n ≤ 140737488355328:=hP.pre.data.2.2.2.2.1
 have hd9:d.size ≤ 100000000000:=hP.pre.small d (List.mem_of_getElem? hd)
 have hx6:x.size ≤ 65536:=hP.pre.log.1.2 x (List.mem_of_getElem? hx)
 have HLE:Hid (∀ w,LogAt base b0 v L w → Calls Tryz.prog 23 #[.pointer (some ⟨b0,0,none⟩),.int .u64 b] w fun ev w' => ev = .returned (.tuple #[.string x,.nilIface]) ∧ Below w.heap.size w w'):=hid (fun w q => by
  rw [hbn]
  exact (lleaf_ok base b0 v L w q bn x hx).mono (fun _ _ r => ⟨r.1,by rw [r.2];exact Below.refl _ _⟩))
 obtain ⟨x0,hx0⟩:∃ x,w.heap.size = x:=⟨_,rfl⟩
 have HP:=hid hP
 obtain ⟨wv,hwv⟩:∃ x,w.alloc (.cells #[.int .u64 b,.int .u64 e] 84) = x:=⟨_,rfl⟩
 have HB:Hid (Below w.heap.size w wv):=hid (by rw [← hwv];exact (Below.refl _ _).alloc (Nat.le_refl _) _)
 have HSV:Hid (wv.heap.size = x0+1):=hid (by rw [← hwv,← hx0];simp)
 have R0:Hid (wv.heap[x0]? = some (.cells #[.int .u64 b,.int .u64 e] 84 (0,0))):=hid (by rw [← hwv,← hx0];exact heap_at _ _ _ rfl)
 have HPV:=hid (HP.out.below HB.out)
 have HXX:Hid (X0+5 < x0):=hid (by rw [← hx0];exact (Array.getElem?_eq_some_iff.1 HP.out.pw).1)
 have KC1:Hid (∀ w',Gr wv w' → w'.cell? ⟨X0,0,none⟩ = some (.pointer (some ⟨C,0,none⟩)) ∧ w'.cell? ⟨C,1,none⟩ = some (.map (some mb)) ∧ w'.cell? ⟨C,2,none⟩ = some (.int .u64 begin) ∧ w'.cell? ⟨C,3,none⟩ = some (.slice (some ⟨g,o,none⟩) n cap) ∧ w'.cell? ⟨x0,0,none⟩ = some (.int .u64 b) ∧ w'.cell? ⟨x0,1,none⟩ = some (.int .u64 e)):=hid (fun w' h => by
  have hp:=HPV.out.pre.below h
  have hr:=(Below.block h x0 (by have:=HSV.out;omega)).trans R0.out
  obtain ⟨c1,c2,c3,c4,c5⟩:=hp.cells
  exact ⟨c1,c3,c4,c5,by rw [cell_of_row w' x0 0 _ 84 (0,0) hr];rfl,by rw [cell_of_row w' x0 1 _ 84 (0,0) hr];rfl⟩)
 have HWV:=hid hwv
 have X0e:=hid hx0
 have hbx:(Tryz.prog.info? 84).map (·.size) = some 2:=by kernel_rfl
 have HLK:Hid (∀ w',Gr wv w' → (Instr.lookup 68 (.map (some mb)) (.agg #[.int .u64 b,.int .u64 e]) true).run Tryz.prog w' = .ok (.tuple #[.agg vq,.bool false]) w'):=hid (fun w' g => by
  have:=said_look (HPV.out.pre.below g).said (b,e) hb
  rw [hh] at this
  simpa [evq,spanV] using this)
 have HCUT:=hid (fun w => cut_none b e w hb.1 h1 h9 h2)
 have KD:Hid (w.cell? ⟨g,o+j,none⟩ = some (.string d) ∧ g < w.heap.size ∧ g < X0):=hid ⟨hdc,hdg,hP.low.2.2.2.2.2 g o rfl⟩
 have hwj:IntKind.u64.wrap (b - begin) = (j:Int):=by rw [hj];have:=IntWalk.u64_in (j:Int) (by omega);rw [show begin+(j:Int) - begin = j by omega];exact this
 have hsj:b - begin = (j:Int):=by omega
 have HJ:=hid (And.intro hj (And.intro hjn (And.intro hn9 (And.intro hwj hsj))))
 have HSZ:=hid (And.intro hd9 hx6)
 have HG0:=hid hg0
 have HB1:=hid hb.1
 clear hP hb hh evq hwv h1 h9 h2 hdc hdg hd hds hwj hj hjn hn9 hg0 hd9 hsj hx6 hx hbn
 go_enter Tryz.func59,Tryz.ntmps59
 go_upto_region 1 with fail
 rw [HWV.out]
 (try simp only [hx0])
 go_upto_region 1 with fail
 refine wp_region_held_drew (S:=Gr wv) (by kernel_rfl) (Gr.refl wv).drew (fun hHeld => ?_)
 refine tk (i:=0) (v:=?v75) rfl ?y75 ?r75
 case y75 => (intro w hSw;(try dsimp only at hSw);obtain ⟨z0,z1,z2,z3,z4,z5⟩:=KC1.out w hSw;go_simp;(try with_reducible rfl))
 try simp only [pu]
 refine tk (i:=1) (v:=?v76) rfl ?y76 ?r76
 case y76 => (intro w hSw;(try dsimp only at hSw);go_simp;(try with_reducible rfl))
 try simp only [pu]
 refine tk (i:=2) (v:=?v77) rfl ?y77 ?r77
 case y77 => (intro w hSw;(try dsimp only at hSw);go_simp;(try with_reducible rfl))
 try simp only [pu]
 refine tk (i:=3) (v:=?v78) rfl ?y78 ?r78
 case y78 => (intro w hSw;(try dsimp only at hSw);obtain ⟨z0,z1,z2,z3,z4,z5⟩:=KC1.out w hSw;go_simp;(try with_reducible rfl))
 try simp only [pu]
 refine tk (i:=4) (v:=?v79) rfl ?y79 ?r79
 case y79 => (intro w hSw;(try dsimp only at hSw);obtain ⟨z0,z1,z2,z3,z4,z5⟩:=KC1.out w hSw;go_simp;(try with_reducible rfl))
 try simp only [pu]
 refine tw (i:=5) rfl (yieldsIf_lookup (by rfl) 68 _ _ (by rfl) (.map (some mb)) (by rfl) (.agg #[.int .u64 b,.int .u64 e]) (by rfl) _ (fun w h => HLK.out w h)) ?_
 try simp only [pu]
 refine tk (i:=6) (v:=?v81) rfl ?y81 ?r81
 case y81 => (intro w hSw;(try dsimp only at hSw);go_simp;(try with_reducible rfl))
 try simp only [pu]
 refine tk (i:=7) (v:=?v82) rfl ?y82 ?r82
 case y82 => (intro w hSw;(try dsimp only at hSw);go_simp;(try with_reducible rfl))
 try simp only [pu]
 refine tk (i:=8) (v:=?v83) rfl ?y83 ?r83
 case y83 => (intro w hSw;(try dsimp only at hSw);go_simp;(try with_reducible rfl))
 try simp only [pu]
 refine wpAnyH_ready (rs:=[9]) (by kernel_rfl) (by simp) ?_
 refine AllReadyH.cons (i:=9) rfl (fun K2 hK2 => ?_) AllReadyH.nil
 go_simp
 obtain ⟨wa,hwa⟩:∃ x,(wv.alloc (.cells (List.replicate 32 (Value.int .u8 0)).toArray 39)).drew = x:=⟨_,rfl⟩
 have ba:Below wv.heap.size wv wa:=by rw [← hwa];exact ((Below.refl _ wv).alloc (Nat.le_refl _) _).drew
 have Ra:Hid (wa.heap[wv.heap.size]? = some (.cells (List.replicate 32 (Value.int .u8 0)).toArray 39 (0,0))):=hid (by rw [← hwa];exact heap_at wv _ _ rfl)
 simp only [List.replicate] at hwa
 rw [hwa]
 clear hwa
 refine hK2.out _ _ (show Gr wv _ from (by repeat (first | exact Gr.refl _ | (refine Gr.step ?_ (by assumption)) | (refine Gr.alloc ?_ _) | (refine Gr.drew ?_)))) (fun hHeld2 => ?_)
 clear hK2 K2
 try simp only [pu]
 refine wpAnyH_ready (rs:=[10]) (by kernel_rfl) (by simp) ?_
 refine AllReadyH.cons (i:=10) rfl (fun K2 hK2 => ?_) AllReadyH.nil
 rw [if_pos (by rfl)]
 refine wp_store_row 39 _ _ rfl wv.heap.size vq rfl rfl 39 _ Ra.out Ivq.out (by rw [Zvq.out];simp) Ovq.out ?_
 refine hK2.out _ _ (show Gr wv _ from below_setRow (show Gr wv wa from (by repeat (first | exact Gr.refl _ | (refine Gr.step ?_ (by assumption)) | (refine Gr.alloc ?_ _) | (refine Gr.drew ?_)))) _ _ (Nat.le_refl _)) (fun hHeld2 => ?_)
 clear hK2 K2
 try simp only [pu]
 refine tk (i:=11) (v:=?v84) rfl ?y84 ?r84
 case y84 => (intro w hSw;(try dsimp only at hSw);go_simp;(try with_reducible rfl))
 try simp only [pu]
 refine wpAnyH_done (by kernel_rfl) ?_ _
 have HBa:Hid (Below wv.heap.size wv (wa.setRow wv.heap.size vq)):=hid (below_setRow (show Gr wv wa from (by repeat (first | exact Gr.refl _ | (refine Gr.step ?_ (by assumption)) | (refine Gr.alloc ?_ _) | (refine Gr.drew ?_)))) _ _ (Nat.le_refl _))
 have R6:Hid ((wa.setRow wv.heap.size vq).heap[wv.heap.size]? = some (.cells vq 39 (0,0))):=hid (setRow_heap _ _ _ _ _ _ Ra.out)
 obtain ⟨wl,hwl⟩:∃ x,wa.setRow wv.heap.size vq = x:=⟨_,rfl⟩
 rw [hwl] at HBa R6 ⊢
 clear hwl ba Ra hHeld hHeld2
 have HPL:=hid (HPV.out.below HBa.out)
 have cbc:wl.cell? ⟨X0+4,0,none⟩ = some (.func (.func 56) #[] #[]):=by rw [cell_of_row wl (X0+4) 0 _ 109 (0,0) HPL.out.pre.pc];rfl
 obtain ⟨_,_,_,_,s0,s1⟩:=KC1.out wl HBa.out
 go_wp2_with fail
 refine (HCUT.out wl).mono ?_
 rintro ev w1 ⟨rfl,b1⟩
 have B1:=hid b1
 clear b1 cbc s0 s1
 go_upto_region 5 with (first
  | (refine wpList_store_row_any rfl 84 _ _ rfl w1.heap.size #[.int .u64 b,.int .u64 b] rfl rfl 84 _ ((((Below.refl _ (w1.alloc _)).alloc (Nat.le_refl _) _).block _ (by simp)).trans (heap_at _ _ _ rfl)) (by kernel_rfl) rfl (by simp [Value.oneCell']) ?_;intro w2 hbA hgA hsA;have BA:=hid hbA;have GA:=hid hgA;have SAz:Hid (w2.heap.size = w1.heap.size+1+1):=hid (hsA.trans (by simp));clear hbA hgA hsA)
  | (refine wpList_store_row_any rfl 84 _ _ rfl (w1.heap.size+1) #[.int .u64 b,.int .u64 e] rfl rfl 84 _ ((BA.out.same _ (by simp) (by omega)).trans (heap_at _ _ _ (by simp))) (by kernel_rfl) rfl (by simp [Value.oneCell']) ?_;intro w3 hbB hgB hsB;have BC:=hid hbB;have RRt:=hid hgB;have SBz:Hid (w3.heap.size = w1.heap.size+1+1):=hid (hsB.trans SAz.out);clear hbB hgB hsB))
 have B13:Hid (Below w1.heap.size w1 w3):=hid ((((Below.refl _ _).alloc (Nat.le_refl _) _).alloc (by simp) _).trans (((BA.out.mono (T:=fun k => k = w1.heap.size ∨ k = w1.heap.size+1) (fun _ _ q => .inl q)).step BC.out (fun _ _ q => .inr q)).to_below (by simp;omega) (fun k hk q => by omega)))
 have RLf:Hid (w3.heap[w1.heap.size]? = some (.cells #[.int .u64 b,.int .u64 b] 84 (0,0))):=hid ((BC.out.same _ (by have:=SAz.out;omega) (by omega)).trans GA.out)
 have HBl3:Hid (Below wl.heap.size wl w3):=hid (B1.out.trans (B13.out.mono B1.out.size))
 have HBv3:Hid (Below wv.heap.size wv w3):=hid (HBa.out.trans (HBl3.out.mono HBa.out.size))
 have HBL:Hid (Below w.heap.size w w3):=hid (HB.out.trans (HBv3.out.mono HB.out.size))
 have HP3:=hid (HPL.out.below HBl3.out)
 have HX3:Hid (x0 < w3.heap.size):=hid (by have:=HBv3.out.size;have:=HSV.out;omega)
 have K6:Hid (∀ w',Gr w3 w' → w'.cell? ⟨X0,0,none⟩ = some (.pointer (some ⟨C,0,none⟩)) ∧ w'.cell? ⟨C,0,none⟩ = some (.pointer (some ⟨b0,0,none⟩)) ∧ w'.cell? ⟨x0,0,none⟩ = some (.int .u64 b)):=hid (fun w' q => by
  obtain ⟨c1,c2,c3,c4,c5⟩:=(HP3.out.below q).pre.cells
  exact ⟨c1,c2,(KC1.out w' (Gr.step (show Gr wv w3 from HBv3.out) q)).2.2.2.2.1⟩)
 go_wp2_with fail
 refine wp_region_held_drew (S:=Gr w3) (by kernel_rfl) (Gr.refl w3).drew (fun hHeld => ?_)
 refine tk (i:=0) (v:=?v48) rfl ?y48 ?r48
 case y48 => (intro w hSw;(try dsimp only at hSw);obtain ⟨z1,z2,z3⟩:=K6.out w hSw;go_simp;(try with_reducible rfl))
 try simp only [pu]
 refine tk (i:=1) (v:=?v49) rfl ?y49 ?r49
 case y49 => (intro w hSw;(try dsimp only at hSw);go_simp;(try with_reducible rfl))
 try simp only [pu]
 refine tk (i:=2) (v:=?v50) rfl ?y50 ?r50
 case y50 => (intro w hSw;(try dsimp only at hSw);go_simp;(try with_reducible rfl))
 try simp only [pu]
 refine tk (i:=3) (v:=?v51) rfl ?y51 ?r51
 case y51 => (intro w hSw;(try dsimp only at hSw);obtain ⟨z1,z2,z3⟩:=K6.out w hSw;go_simp;(try with_reducible rfl))
 try simp only [pu]
 refine tk (i:=4) (v:=?v52) rfl ?y52 ?r52
 case y52 => (intro w hSw;(try dsimp only at hSw);go_simp;(try with_reducible rfl))
 try simp only [pu]
 refine tk (i:=5) (v:=?v53) rfl ?y53 ?r53
 case y53 => (intro w hSw;(try dsimp only at hSw);obtain ⟨z1,z2,z3⟩:=K6.out w hSw;go_simp;(try with_reducible rfl))
 try simp only [pu]
 refine wpAnyH_ready (rs:=[6]) (by kernel_rfl) (by simp) ?_
 refine AllReadyH.cons (i:=6) rfl (fun K2 hK2 => ?_) AllReadyH.nil
 go_simp
 go_at_call 23
 refine (HLE.out w3.drew (HP3.out.below (show Gr w3 w3.drew from (by repeat (first | exact Gr.refl _ | (refine Gr.step ?_ (by assumption)) | (refine Gr.alloc ?_ _) | (refine Gr.drew ?_))))).pre.log).mono ?_
 rintro ev w105 ⟨rfl,b105⟩
 try go_wp2_with fail
 refine hK2.out _ _ (show Gr w3 _ from (by repeat (first | exact Gr.refl _ | (refine Gr.step ?_ (by assumption)) | (refine Gr.alloc ?_ _) | (refine Gr.drew ?_)))) (fun hHeld2 => ?_)
 clear hK2 K2
 try simp only [pu]
 refine tk (i:=7) (v:=?v54) rfl ?y54 ?r54
 case y54 => (intro w hSw;(try dsimp only at hSw);go_simp;(try with_reducible rfl))
 try simp only [pu]
 refine tk (i:=8) (v:=?v55) rfl ?y55 ?r55
 case y55 => (intro w hSw;(try dsimp only at hSw);go_simp;(try with_reducible rfl))
 try simp only [pu]
 refine tk (i:=9) (v:=?v56) rfl ?y56 ?r56
 case y56 => (intro w hSw;(try dsimp only at hSw);go_simp;(try with_reducible rfl))
 try simp only [pu]
 refine tk (i:=10) (v:=?v57) rfl ?y57 ?r57
 case y57 => (intro w hSw;(try dsimp only at hSw);go_simp;(try with_reducible rfl))
 try simp only [pu]
 refine tk (i:=11) (v:=?v58) rfl ?y58 ?r58
 case y58 => (intro w hSw;(try dsimp only at hSw);go_simp;(try with_reducible rfl))
 try simp only [pu]
 refine wpAnyH_done (by kernel_rfl) ?_ _
 go_wp2_with fail
 obtain ⟨wz,hwz⟩:∃ z,w105 = z:=⟨_,rfl⟩
 have B3z:Hid (Below w3.heap.size w3 wz):=hid (by rw [← hwz];exact (show Gr w3 w105 from (by repeat (first | exact Gr.refl _ | (refine Gr.step ?_ (by assumption)) | (refine Gr.alloc ?_ _) | (refine Gr.drew ?_)))))
 rw [hwz]
 clear hwz hHeld hHeld2
 have HPz:=hid (HP3.out.below B3z.out)
 have HBLz:Hid (Below w.heap.size w wz):=hid (HBL.out.trans (B3z.out.mono HBL.out.size))
 obtain ⟨s0,RA0⟩:=HPz.out.fa
 obtain ⟨t0,RB0⟩:=HPz.out.fb
 have RA0:=hid RA0
 have RB0:=hid RB0
 have KE:Hid (∀ w',But (fun q => q = X0+1 ∨ q = X0+2) wz w' → w'.cell? ⟨X0,0,none⟩ = some (.pointer (some ⟨C,0,none⟩)) ∧ w'.cell? ⟨C,2,none⟩ = some (.int .u64 begin) ∧ w'.cell? ⟨C,3,none⟩ = some (.slice (some ⟨g,o,none⟩) n cap) ∧ w'.cell? ⟨x0,0,none⟩ = some (.int .u64 b) ∧ w'.cell? ⟨g,o+j,none⟩ = some (.string d)):=hid (fun w' q => by
  obtain ⟨c1,c2,c3,c4,c5,c6⟩:=KC1.out wz (Gr.step (show Gr wv w3 from HBv3.out) B3z.out)
  have n1:=HP.out.low.2.1
  have n2:=HXX.out
  have n3:=KD.out.2.2
  exact ⟨q.cell c1 (by show ¬ (X0 = X0+1 ∨ X0 = X0+2);omega),q.cell c3 (by show ¬ (C = X0+1 ∨ C = X0+2);omega),q.cell c4 (by show ¬ (C = X0+1 ∨ C = X0+2);omega),q.cell c5 (by show ¬ (x0 = X0+1 ∨ x0 = X0+2);omega),q.cell (cell_below HBLz.out KD.out.1 KD.out.2.1) (by show ¬ (g = X0+1 ∨ g = X0+2);omega)⟩)
 have j0:(0:Int) ≤ j:=by omega
 have j1:(j:Int) < n:=by have:=HJ.out.2.1;omega
 have hwj:=HJ.out.2.2.2.1
 have hsj:=HJ.out.2.2.2.2
 have hbb:begin ≤ b:=by have:=HJ.out.1;omega
 have hwj2:IntKind.u64.wrap (j:Int) = (j:Int):=IntWalk.u64_in _ (by have:=HJ.out.2.1;have:=HJ.out.2.2.1;omega)
 have z0:ByteArray.size ⟨#[0]⟩ = 1:=rfl
 have hd9:=HSZ.out.1
 have hx6:=HSZ.out.2
 have hzx:¬ (9223372036854775807 < 1+x.size):=by omega
 have hzd:¬ (9223372036854775807 < 1+d.size):=by omega
 go_wp2_with fail
 refine wp_region_held_drew (S:=But (fun q => q = X0+1 ∨ q = X0+2) wz) (by kernel_rfl) (But.refl (fun q => q = X0+1 ∨ q = X0+2) wz).drew (fun hHeld => ?_)
 refine tk (i:=0) (v:=?v59) rfl ?y59 ?r59
 case y59 => (intro w hSw;(try dsimp only at hSw);go_simp;(try with_reducible rfl))
 try simp only [pu]
 refine tk (i:=1) (v:=?v60) rfl ?y60 ?r60
 case y60 => (intro w hSw;(try dsimp only at hSw);go_simp;(try with_reducible rfl))
 try simp only [pu]
 refine tk (i:=2) (v:=?v61) rfl ?y61 ?r61
 case y61 => (intro w hSw;(try dsimp only at hSw);obtain ⟨z1,z2,z3,z4,z5⟩:=KE.out w hSw;go_simp;(try with_reducible rfl))
 try simp only [pu]
 refine tk (i:=3) (v:=?v62) rfl ?y62 ?r62
 case y62 => (intro w hSw;(try dsimp only at hSw);go_simp;(try with_reducible rfl))
 try simp only [pu]
 refine tk (i:=4) (v:=?v63) rfl ?y63 ?r63
 case y63 => (intro w hSw;(try dsimp only at hSw);go_simp;(try with_reducible rfl))
 try simp only [pu]
 refine tk (i:=5) (v:=?v64) rfl ?y64 ?r64
 case y64 => (intro w hSw;(try dsimp only at hSw);obtain ⟨z1,z2,z3,z4,z5⟩:=KE.out w hSw;go_simp;(try with_reducible rfl))
 try simp only [pu]
 refine tk (i:=6) (v:=?v65) rfl ?y65 ?r65
 case y65 => (intro w hSw;(try dsimp only at hSw);go_simp;(try with_reducible rfl))
 try simp only [pu]
 refine tk (i:=7) (v:=?v66) rfl ?y66 ?r66
 case y66 => (intro w hSw;(try dsimp only at hSw);obtain ⟨z1,z2,z3,z4,z5⟩:=KE.out w hSw;go_simp;(try with_reducible rfl))
 try simp only [pu]
 refine tk (i:=8) (v:=?v67) rfl ?y67 ?r67
 case y67 => (intro w hSw;(try dsimp only at hSw);obtain ⟨z1,z2,z3,z4,z5⟩:=KE.out w hSw;go_simp;(try with_reducible rfl))
 try simp only [pu]
 refine tk (i:=9) (v:=?v68) rfl ?y68 ?r68
 case y68 => (intro w hSw;(try dsimp only at hSw);go_simp;(try with_reducible rfl))
 try simp only [pu]
 refine tk (i:=10) (v:=?v69) rfl ?y69 ?r69
 case y69 => (intro w hSw;(try dsimp only at hSw);go_simp;(try with_reducible rfl))
 try simp only [pu]
 refine tk (i:=11) (v:=?v70) rfl ?y70 ?r70
 case y70 => (intro w hSw;(try dsimp only at hSw);obtain ⟨z1,z2,z3,z4,z5⟩:=KE.out w hSw;go_simp;(try with_reducible rfl))
 try simp only [pu]
 refine tk (i:=12) (v:=?v71) rfl ?y71 ?r71
 case y71 => (intro w hSw;(try dsimp only at hSw);go_simp;(try with_reducible rfl))
 try simp only [pu]
 refine tk (i:=13) (v:=?v72) rfl ?y72 ?r72
 case y72 => (intro w hSw;(try dsimp only at hSw);go_simp;(try with_reducible rfl))
 try simp only [pu]
 refine tk (i:=14) (v:=?v73) rfl ?y73 ?r73
 case y73 => (intro w hSw;(try dsimp only at hSw);obtain ⟨z1,z2,z3,z4,z5⟩:=KE.out w hSw;go_simp;(try with_reducible rfl))
 try simp only [pu]
 refine tk (i:=15) (v:=?v74) rfl ?y74 ?r74
 case y74 => (intro w hSw;(try dsimp only at hSw);go_simp;(try with_reducible rfl))
 try simp only [pu]
 refine wpAnyH_ready (rs:=[16]) (by kernel_rfl) (by simp) ?_
 refine AllReadyH.cons (i:=16) rfl (fun K2 hK2 => ?_) AllReadyH.nil
 rw [if_pos (by rfl)]
 refine wp_store_one 9 _ _ rfl (X0+1) (.string (⟨#[0]⟩ ++ x)) rfl (by rfl) rfl 9 _ (RA0.out) (by kernel_rfl) ?_
 refine hK2.out _ _ (show But (fun q => q = X0+1 ∨ q = X0+2) wz _ from ((But.refl (fun q => q = X0+1 ∨ q = X0+2) wz).drew.setRow (X0+1) #[(.string (⟨#[0]⟩ ++ x))] (fun _ => Or.inl rfl))) (fun hHeld2 => ?_)
 clear hK2 K2
 try simp only [Act.put,List.getElem_toArray,List.getElem_cons_zero,List.getElem_cons_succ]
 refine wpAnyH_ready (rs:=[17]) (by kernel_rfl) (by simp) ?_
 refine AllReadyH.cons (i:=17) rfl (fun K2 hK2 => ?_) AllReadyH.nil
 rw [if_pos (by rfl)]
 refine wp_store_one 9 _ _ rfl (X0+2) (.string (⟨#[0]⟩ ++ d)) rfl (by rfl) rfl 9 _ ((setRow_other _ _ _ _ (by omega)).trans (RB0.out)) (by kernel_rfl) ?_
 refine hK2.out _ _ (show But (fun q => q = X0+1 ∨ q = X0+2) wz _ from (((But.refl (fun q => q = X0+1 ∨ q = X0+2) wz).drew.setRow (X0+1) #[(.string (⟨#[0]⟩ ++ x))] (fun _ => Or.inl rfl)).setRow (X0+2) #[(.string (⟨#[0]⟩ ++ d))] (fun _ => Or.inr rfl))) (fun hHeld2 => ?_)
 clear hK2 K2
 try simp only [Act.put,List.getElem_toArray,List.getElem_cons_zero,List.getElem_cons_succ]
 refine wpAnyH_done (by kernel_rfl) ?_ _
 have RA:Hid (((wz.drew.setRow (X0+1) #[(.string (⟨#[0]⟩ ++ x))]).setRow (X0+2) #[(.string (⟨#[0]⟩ ++ d))]).heap[X0+1]? = some (.cells #[.string (⟨#[0]⟩ ++ x)] 9 (0,0))):=hid ((setRow_other _ _ _ _ (by omega)).trans (setRow_heap wz.drew _ _ _ _ _ RA0.out))
 have RB:Hid (((wz.drew.setRow (X0+1) #[(.string (⟨#[0]⟩ ++ x))]).setRow (X0+2) #[(.string (⟨#[0]⟩ ++ d))]).heap[X0+2]? = some (.cells #[.string (⟨#[0]⟩ ++ d)] 9 (0,0))):=hid (setRow_heap _ _ _ _ _ _ ((setRow_other wz.drew _ _ _ (by omega)).trans RB0.out))
 have HBK:Hid (But (fun q => q = X0+1 ∨ q = X0+2) wz ((wz.drew.setRow (X0+1) #[(.string (⟨#[0]⟩ ++ x))]).setRow (X0+2) #[(.string (⟨#[0]⟩ ++ d))])):=hid hHeld2
 obtain ⟨wk,hwk⟩:∃ z,((wz.drew.setRow (X0+1) #[(.string (⟨#[0]⟩ ++ x))]).setRow (X0+2) #[(.string (⟨#[0]⟩ ++ d))]) = z:=⟨_,rfl⟩
 rw [hwk] at RA RB HBK ⊢
 clear hwk hHeld hHeld2
 have HFB:Hid (But (fun q => q = X0+1 ∨ q = X0+2) w wk):=hid ((But.new HBLz.out).trans HBK.out)
 obtain ⟨sa,hsa⟩:∃ s,(⟨#[0]⟩ ++ x:ByteArray) = s:=⟨_,rfl⟩
 obtain ⟨sb,hsb⟩:∃ s,(⟨#[0]⟩ ++ d:ByteArray) = s:=⟨_,rfl⟩
 have ea:bOf sa = 0 :: bOf x:=by rw [← hsa];simp [bOf]
 have eb:bOf sb = 0 :: bOf d:=by rw [← hsb];simp [bOf]
 rw [hsa] at RA
 rw [hsb] at RB
 have qa:wk.cell? ⟨X0+1,0,none⟩ = some (.string sa):=by rw [cell_of_row wk (X0+1) 0 _ 9 (0,0) RA.out];rfl
 have qb:wk.cell? ⟨X0+2,0,none⟩ = some (.string sb):=by rw [cell_of_row wk (X0+2) 0 _ 9 (0,0) RB.out];rfl
 have EAB:=hid (And.intro ea eb)
 clear ea eb hsa hsb hd9 hx6 hwj hsj hwj2 hbb hzx hzd
 by_cases hq:sa = sb
 ·have hxd:bOf x = bOf d:=by
   have:=congrArg bOf hq
   rw [EAB.out.1,EAB.out.2] at this
   simpa using this
  obtain rfl:none = out:=by rw [← hout.out,if_pos hxd]
  clear hxd hout
  go_wp2
  go_ret
  exact ⟨sa,sb,by first | rfl | simp,RA.out,RB.out,(fun _ hx => by cases hx),HFB.out⟩
 ·have hxd:¬ bOf x = bOf d:=fun h => hq (bOf_inj (by rw [EAB.out.1,EAB.out.2,h]))
  obtain rfl:some (0 :: bOf x,0 :: bOf d) = out:=by rw [← hout.out,if_neg hxd]
  clear hxd hout
  go_wp2
  go_ret
  exact ⟨sa,sb,by first | rfl | (simp;intro h;rw [Go.ByteArray.toList_eq,Go.ByteArray.toList_eq] at h;exact hq (ByteArray.ext (Array.toList_inj.1 h))),RA.out,RB.out,(fun _ hx => by cases hx;exact EAB.out),HFB.out⟩
/- forge.claim.part: where the log and the claim part: a leaf, a node, any stretch. Condition: the package-level variables read as listed. -/
theorem walk_node (a:Nat → Addr) (B base b0:Nat) (v:Value) (L:List ByteArray) (C X0 mb:Nat) (begin:Int) (S:Option Addr) (n cap:Nat) (D:List ByteArray) (m:List ((Int × Int) × List UInt8)) (b e k:Int) (p q x y:List UInt8) (rl rr out:Option (List UInt8 × List UInt8)) (hout:(if p ++ q = x ++ y then (match rl with | some r => some r | none => rr) else some (1 :: (p ++ q),1 :: (x ++ y))) = out) (w:World) (hP:WalkPre a B base b0 v L C X0 mb begin S n cap D m w) (hb:PB (b,e)) (hh:saidL m (b,e) = none) (h1:b < e) (h9:e ≤ (L.length:Int)) (h2:2 ≤ e - b) (hk:blwI (e - b) = k)
 (hp:treeB L b (b+k) = p) (hq:treeB L (b+k) e = q) (lx:x.length = 32) (ly:y.length = 32)
 (hsl:(∀ w,ClaimPre a B base b0 v L C X0 (X0+4) (X0+3) mb begin S n cap D m w → Calls Tryz.prog 57 #[.agg #[.int .u64 b,.int .u64 (b+k)],.pointer (some ⟨X0,0,none⟩),.pointer (some ⟨X0+4,0,none⟩),.pointer (some ⟨X0+3,0,none⟩)] w fun ev w' => ev = .returned (hv x) ∧ Below w.heap.size w w')) (hsr:(∀ w,ClaimPre a B base b0 v L C X0 (X0+4) (X0+3) mb begin S n cap D m w → Calls Tryz.prog 57 #[.agg #[.int .u64 (b+k),.int .u64 e],.pointer (some ⟨X0,0,none⟩),.pointer (some ⟨X0+4,0,none⟩),.pointer (some ⟨X0+3,0,none⟩)] w fun ev w' => ev = .returned (hv y) ∧ Below w.heap.size w w'))
 (ihl:(∀ w,WalkPre a B base b0 v L C X0 mb begin S n cap D m w → Calls Tryz.prog 59 #[.agg #[.int .u64 b,.int .u64 (b+k)],.pointer (some ⟨X0,0,none⟩),.pointer (some ⟨X0+4,0,none⟩),.pointer (some ⟨X0+1,0,none⟩),.pointer (some ⟨X0+2,0,none⟩),.pointer (some ⟨X0+3,0,none⟩),.pointer (some ⟨X0+5,0,none⟩)] w (WalkPost X0 rl w))) (ihr:(∀ w,WalkPre a B base b0 v L C X0 mb begin S n cap D m w → Calls Tryz.prog 59 #[.agg #[.int .u64 (b+k),.int .u64 e],.pointer (some ⟨X0,0,none⟩),.pointer (some ⟨X0+4,0,none⟩),.pointer (some ⟨X0+1,0,none⟩),.pointer (some ⟨X0+2,0,none⟩),.pointer (some ⟨X0+3,0,none⟩),.pointer (some ⟨X0+5,0,none⟩)] w (WalkPost X0 rr w))) :
 Calls Tryz.prog 59 #[.agg #[.int .u64 b,.int .u64 e],.pointer (some ⟨X0,0,none⟩),.pointer (some ⟨X0+4,0,none⟩),.pointer (some ⟨X0+1,0,none⟩),.pointer (some ⟨X0+2,0,none⟩),.pointer (some ⟨X0+3,0,none⟩),.pointer (some ⟨X0+5,0,none⟩)] w (WalkPost X0 out w):=by
 have hout:=hid hout
 have hL:=hP.pre.log.1.1
 have hbl:=blwI_bd (n:=e - b) (by omega)
 have lp:p.length = 32:=by rw [← hp];exact treeB_len _ _ _
 have lq:q.length = 32:=by rw [← hq];exact treeB_len _ _ _
 obtain ⟨vz,evz,Hvz,Zvz,Ivz,Ovz⟩:=row_of zeroH zeroH_length
 obtain ⟨vp,evp,Hvp,Zvp,Ivp,Ovp⟩:=row_of p lp
 obtain ⟨vq,evq,Hvq,Zvq,Ivq,Ovq⟩:=row_of q lq
 obtain ⟨vx,evx,Hvx,Zvx,Ivx,Ovx⟩:=row_of x lx
 obtain ⟨vy,evy,Hvy,Zvy,Ivy,Ovy⟩:=row_of y ly
 rw [evx] at hsl
 rw [evy] at hsr
 have HSL:=hid hsl
 have HSR:=hid hsr
 have IHL:=hid ihl
 have IHR:=hid ihr
 have hb0:=hb.1
 simp only at hb0
 have HTL:Hid (∀ w,WalkPre a B base b0 v L C X0 mb begin S n cap D m w → Calls Tryz.prog 49 #[.pointer (some ⟨b0,0,none⟩),.agg #[.int .u64 b,.int .u64 (b+k)]] w fun ev w' => ev = .returned (.tuple #[.agg vp,.nilIface]) ∧ Below w.heap.size w w'):=hid (fun w q => by
  have:=tree_ok a B base b0 v L b (b+k) w q.pre.env q.pre.log hb0 (by omega) (by omega)
  rw [hp,evp] at this;exact this)
 have HTR:Hid (∀ w,WalkPre a B base b0 v L C X0 mb begin S n cap D m w → Calls Tryz.prog 49 #[.pointer (some ⟨b0,0,none⟩),.agg #[.int .u64 (b+k),.int .u64 e]] w fun ev w' => ev = .returned (.tuple #[.agg vq,.nilIface]) ∧ Below w.heap.size w w'):=hid (fun w q => by
  have:=tree_ok a B base b0 v L (b+k) e w q.pre.env q.pre.log (by omega) (by omega) h9
  rw [hq,evq] at this;exact this)
 have HT1:Hid (∀ w,Calls Tryz.prog 53 #[.agg vp,.agg vq] w fun ev w' => (∃ s,ev = .returned (.string s) ∧ bOf s = 1 :: (p ++ q) ∧ s.size = 65) ∧ Below w.heap.size w w'):=hid (fun w => by rw [← evp,← evq];exact text_any p q w lp lq)
 have HT2:Hid (∀ w,Calls Tryz.prog 53 #[.agg vx,.agg vy] w fun ev w' => (∃ s,ev = .returned (.string s) ∧ bOf s = 1 :: (x ++ y) ∧ s.size = 65) ∧ Below w.heap.size w w'):=hid (fun w => by rw [← evx,← evy];exact text_any x y w lx ly)
 obtain ⟨x0,hx0⟩:∃ x,w.heap.size = x:=⟨_,rfl⟩
 have HP:=hid hP
 obtain ⟨wv,hwv⟩:∃ x,w.alloc (.cells #[.int .u64 b,.int .u64 e] 84) = x:=⟨_,rfl⟩
 have HB:Hid (Below w.heap.size w wv):=hid (by rw [← hwv];exact (Below.refl _ _).alloc (Nat.le_refl _) _)
 have HSV:Hid (wv.heap.size = x0+1):=hid (by rw [← hwv,← hx0];simp)
 have R0:Hid (wv.heap[x0]? = some (.cells #[.int .u64 b,.int .u64 e] 84 (0,0))):=hid (by rw [← hwv,← hx0];exact heap_at _ _ _ rfl)
 have HPV:=hid (HP.out.below HB.out)
 have HXX:Hid (X0+5 < x0):=hid (by rw [← hx0];exact (Array.getElem?_eq_some_iff.1 HP.out.pw).1)
 have KC1:Hid (∀ w',Gr wv w' → w'.cell? ⟨X0,0,none⟩ = some (.pointer (some ⟨C,0,none⟩)) ∧ w'.cell? ⟨C,1,none⟩ = some (.map (some mb)) ∧ w'.cell? ⟨C,2,none⟩ = some (.int .u64 begin) ∧ w'.cell? ⟨C,3,none⟩ = some (.slice S n cap) ∧ w'.cell? ⟨x0,0,none⟩ = some (.int .u64 b) ∧ w'.cell? ⟨x0,1,none⟩ = some (.int .u64 e)):=hid (fun w' h => by
  have hp:=HPV.out.pre.below h
  have hr:=(Below.block h x0 (by have:=HSV.out;omega)).trans R0.out
  obtain ⟨c1,c2,c3,c4,c5⟩:=hp.cells
  exact ⟨c1,c3,c4,c5,by rw [cell_of_row w' x0 0 _ 84 (0,0) hr];rfl,by rw [cell_of_row w' x0 1 _ 84 (0,0) hr];rfl⟩)
 have HWV:=hid hwv
 have X0e:=hid hx0
 have hbx:(Tryz.prog.info? 84).map (·.size) = some 2:=by kernel_rfl
 have HLK:Hid (∀ w',Gr wv w' → (Instr.lookup 68 (.map (some mb)) (.agg #[.int .u64 b,.int .u64 e]) true).run Tryz.prog w' = .ok (.tuple #[.agg vz,.bool false]) w'):=hid (fun w' g => by
  have:=said_look (HPV.out.pre.below g).said (b,e) hb
  rw [hh] at this
  simpa [evz,spanV] using this)
 have HCUT:=hid (fun w => cut_more b e k w hb.1 h1 (by omega) h2 hk)
 clear hP hb hh evq evp evx evy evz hwv h1 h9 h2 hk hsl hsr ihl ihr lx ly lp lq hp hq hL hbl hb0
 go_enter Tryz.func59,Tryz.ntmps59
 go_upto_region 1 with fail
 rw [HWV.out]
 (try simp only [hx0])
 go_upto_region 1 with fail
 refine wp_region_held_drew (S:=Gr wv) (by kernel_rfl) (Gr.refl wv).drew (fun hHeld => ?_)
 refine tk (i:=0) (v:=?v117) rfl ?y117 ?r117
 case y117 => (intro w hSw;(try dsimp only at hSw);obtain ⟨z0,z1,z2,z3,z4,z5⟩:=KC1.out w hSw;go_simp;(try with_reducible rfl))
 try simp only [pu]
 refine tk (i:=1) (v:=?v118) rfl ?y118 ?r118
 case y118 => (intro w hSw;(try dsimp only at hSw);go_simp;(try with_reducible rfl))
 try simp only [pu]
 refine tk (i:=2) (v:=?v119) rfl ?y119 ?r119
 case y119 => (intro w hSw;(try dsimp only at hSw);go_simp;(try with_reducible rfl))
 try simp only [pu]
 refine tk (i:=3) (v:=?v120) rfl ?y120 ?r120
 case y120 => (intro w hSw;(try dsimp only at hSw);obtain ⟨z0,z1,z2,z3,z4,z5⟩:=KC1.out w hSw;go_simp;(try with_reducible rfl))
 try simp only [pu]
 refine tk (i:=4) (v:=?v121) rfl ?y121 ?r121
 case y121 => (intro w hSw;(try dsimp only at hSw);obtain ⟨z0,z1,z2,z3,z4,z5⟩:=KC1.out w hSw;go_simp;(try with_reducible rfl))
 try simp only [pu]
 refine tw (i:=5) rfl (yieldsIf_lookup (by rfl) 68 _ _ (by rfl) (.map (some mb)) (by rfl) (.agg #[.int .u64 b,.int .u64 e]) (by rfl) _ (fun w h => HLK.out w h)) ?_
 try simp only [pu]
 refine tk (i:=6) (v:=?v123) rfl ?y123 ?r123
 case y123 => (intro w hSw;(try dsimp only at hSw);go_simp;(try with_reducible rfl))
 try simp only [pu]
 refine tk (i:=7) (v:=?v124) rfl ?y124 ?r124
 case y124 => (intro w hSw;(try dsimp only at hSw);go_simp;(try with_reducible rfl))
 try simp only [pu]
 refine tk (i:=8) (v:=?v125) rfl ?y125 ?r125
 case y125 => (intro w hSw;(try dsimp only at hSw);go_simp;(try with_reducible rfl))
 try simp only [pu]
 refine wpAnyH_ready (rs:=[9]) (by kernel_rfl) (by simp) ?_
 refine AllReadyH.cons (i:=9) rfl (fun K2 hK2 => ?_) AllReadyH.nil
 go_simp
 obtain ⟨wa,hwa⟩:∃ x,(wv.alloc (.cells (List.replicate 32 (Value.int .u8 0)).toArray 39)).drew = x:=⟨_,rfl⟩
 have ba:Below wv.heap.size wv wa:=by rw [← hwa];exact ((Below.refl _ wv).alloc (Nat.le_refl _) _).drew
 have Ra:Hid (wa.heap[wv.heap.size]? = some (.cells (List.replicate 32 (Value.int .u8 0)).toArray 39 (0,0))):=hid (by rw [← hwa];exact heap_at wv _ _ rfl)
 simp only [List.replicate] at hwa
 rw [hwa]
 clear hwa
 refine hK2.out _ _ (show Gr wv _ from (by repeat (first | exact Gr.refl _ | (refine Gr.step ?_ (by assumption)) | (refine Gr.alloc ?_ _) | (refine Gr.drew ?_)))) (fun hHeld2 => ?_)
 clear hK2 K2
 try simp only [pu]
 refine wpAnyH_ready (rs:=[10]) (by kernel_rfl) (by simp) ?_
 refine AllReadyH.cons (i:=10) rfl (fun K2 hK2 => ?_) AllReadyH.nil
 rw [if_pos (by rfl)]
 refine wp_store_row 39 _ _ rfl wv.heap.size vz rfl rfl 39 _ Ra.out Ivz.out (by rw [Zvz.out];simp) Ovz.out ?_
 refine hK2.out _ _ (show Gr wv _ from below_setRow (show Gr wv wa from (by repeat (first | exact Gr.refl _ | (refine Gr.step ?_ (by assumption)) | (refine Gr.alloc ?_ _) | (refine Gr.drew ?_)))) _ _ (Nat.le_refl _)) (fun hHeld2 => ?_)
 clear hK2 K2
 try simp only [pu]
 refine tk (i:=11) (v:=?v126) rfl ?y126 ?r126
 case y126 => (intro w hSw;(try dsimp only at hSw);go_simp;(try with_reducible rfl))
 try simp only [pu]
 refine wpAnyH_done (by kernel_rfl) ?_ _
 have HBa:Hid (Below wv.heap.size wv (wa.setRow wv.heap.size vz)):=hid (below_setRow (show Gr wv wa from (by repeat (first | exact Gr.refl _ | (refine Gr.step ?_ (by assumption)) | (refine Gr.alloc ?_ _) | (refine Gr.drew ?_)))) _ _ (Nat.le_refl _))
 have R6:Hid ((wa.setRow wv.heap.size vz).heap[wv.heap.size]? = some (.cells vz 39 (0,0))):=hid (setRow_heap _ _ _ _ _ _ Ra.out)
 obtain ⟨wl,hwl⟩:∃ x,wa.setRow wv.heap.size vz = x:=⟨_,rfl⟩
 rw [hwl] at HBa R6 ⊢
 clear hwl ba Ra hHeld hHeld2
 have HPL:=hid (HPV.out.below HBa.out)
 have cbc:wl.cell? ⟨X0+4,0,none⟩ = some (.func (.func 56) #[] #[]):=by rw [cell_of_row wl (X0+4) 0 _ 109 (0,0) HPL.out.pre.pc];rfl
 obtain ⟨_,_,_,_,s0,s1⟩:=KC1.out wl HBa.out
 go_wp2_with fail
 refine (HCUT.out wl).mono ?_
 rintro ev w1 ⟨rfl,b1⟩
 have B1:=hid b1
 clear b1 cbc s0 s1
 go_upto_region 5 with (first
  | (refine wpList_store_row_any rfl 84 _ _ rfl w1.heap.size #[.int .u64 b,.int .u64 (b+k)] rfl rfl 84 _ ((((Below.refl _ (w1.alloc _)).alloc (Nat.le_refl _) _).block _ (by simp)).trans (heap_at _ _ _ rfl)) (by kernel_rfl) rfl (by simp [Value.oneCell']) ?_;intro w2 hbA hgA hsA;have BA:=hid hbA;have GA:=hid hgA;have SAz:Hid (w2.heap.size = w1.heap.size+1+1):=hid (hsA.trans (by simp));clear hbA hgA hsA)
  | (refine wpList_store_row_any rfl 84 _ _ rfl (w1.heap.size+1) #[.int .u64 (b+k),.int .u64 e] rfl rfl 84 _ ((BA.out.same _ (by simp) (by omega)).trans (heap_at _ _ _ (by simp))) (by kernel_rfl) rfl (by simp [Value.oneCell']) ?_;intro w3 hbB hgB hsB;have BC:=hid hbB;have RRt:=hid hgB;have SBz:Hid (w3.heap.size = w1.heap.size+1+1):=hid (hsB.trans SAz.out);clear hbB hgB hsB))
 have B13:Hid (Below w1.heap.size w1 w3):=hid ((((Below.refl _ _).alloc (Nat.le_refl _) _).alloc (by simp) _).trans (((BA.out.mono (T:=fun k => k = w1.heap.size ∨ k = w1.heap.size+1) (fun _ _ q => .inl q)).step BC.out (fun _ _ q => .inr q)).to_below (by simp;omega) (fun k hk q => by omega)))
 have RLf:Hid (w3.heap[w1.heap.size]? = some (.cells #[.int .u64 b,.int .u64 (b+k)] 84 (0,0))):=hid ((BC.out.same _ (by have:=SAz.out;omega) (by omega)).trans GA.out)
 have HBl3:Hid (Below wl.heap.size wl w3):=hid (B1.out.trans (B13.out.mono B1.out.size))
 have HBv3:Hid (Below wv.heap.size wv w3):=hid (HBa.out.trans (HBl3.out.mono HBa.out.size))
 have HBL:Hid (Below w.heap.size w w3):=hid (HB.out.trans (HBv3.out.mono HB.out.size))
 have HP3:=hid (HPL.out.below HBl3.out)
 have HX3:Hid (x0 < w3.heap.size):=hid (by have:=HBv3.out.size;have:=HSV.out;omega)
 have HXL0:Hid (X0+5 < w1.heap.size):=hid (by have:=B1.out.size;have:=HBa.out.size;have:=HSV.out;have:=HXX.out;omega)
 have HXL1:Hid (w1.heap.size < w3.heap.size):=hid (Array.getElem?_eq_some_iff.1 RLf.out).1
 obtain ⟨xl,hxl⟩:∃ z,w1.heap.size = z:=⟨_,rfl⟩
 rw [hxl] at RLf RRt HXL0 HXL1 ⊢
 have HXL:Hid (X0+5 < xl ∧ xl < w3.heap.size):=hid ⟨HXL0.out,HXL1.out⟩
 clear hxl HXL0 HXL1
 have K9:Hid (∀ w',Gr w3 w' → w'.cell? ⟨X0,0,none⟩ = some (.pointer (some ⟨C,0,none⟩)) ∧ w'.cell? ⟨C,0,none⟩ = some (.pointer (some ⟨b0,0,none⟩)) ∧ w'.cell? ⟨xl,0,none⟩ = some (.int .u64 b) ∧ w'.cell? ⟨xl,1,none⟩ = some (.int .u64 (b+k)) ∧ w'.cell? ⟨xl+1,0,none⟩ = some (.int .u64 (b+k)) ∧ w'.cell? ⟨xl+1,1,none⟩ = some (.int .u64 e)):=hid (fun w' q => by
  obtain ⟨c1,c2,c3,c4,c5⟩:=(HP3.out.below q).pre.cells
  have l1:=(Below.block q _ (Array.getElem?_eq_some_iff.1 RLf.out).1).trans RLf.out
  have l2:=(Below.block q _ (Array.getElem?_eq_some_iff.1 RRt.out).1).trans RRt.out
  exact ⟨c1,c2,by rw [cell_of_row w' xl 0 _ 84 (0,0) l1];rfl,by rw [cell_of_row w' xl 1 _ 84 (0,0) l1];rfl,by rw [cell_of_row w' (xl+1) 0 _ 84 (0,0) l2];rfl,by rw [cell_of_row w' (xl+1) 1 _ 84 (0,0) l2];rfl⟩)
 go_wp2_with fail
 refine wp_region_held_drew (S:=Gr w3) (by kernel_rfl) (Gr.refl w3).drew (fun hHeld => ?_)
 refine tk (i:=0) (v:=?v48) rfl ?y48 ?r48
 case y48 => (intro w hSw;(try dsimp only at hSw);obtain ⟨z1,z2,z3,z4,z5,z6⟩:=K9.out w hSw;go_simp;(try with_reducible rfl))
 try simp only [pu]
 refine tk (i:=1) (v:=?v49) rfl ?y49 ?r49
 case y49 => (intro w hSw;(try dsimp only at hSw);go_simp;(try with_reducible rfl))
 try simp only [pu]
 refine tk (i:=2) (v:=?v50) rfl ?y50 ?r50
 case y50 => (intro w hSw;(try dsimp only at hSw);go_simp;(try with_reducible rfl))
 try simp only [pu]
 refine tk (i:=3) (v:=?v51) rfl ?y51 ?r51
 case y51 => (intro w hSw;(try dsimp only at hSw);obtain ⟨z1,z2,z3,z4,z5,z6⟩:=K9.out w hSw;go_simp;(try with_reducible rfl))
 try simp only [pu]
 refine tk (i:=4) (v:=?v52) rfl ?y52 ?r52
 case y52 => (intro w hSw;(try dsimp only at hSw);obtain ⟨z1,z2,z3,z4,z5,z6⟩:=K9.out w hSw;go_simp;(try with_reducible rfl))
 try simp only [pu]
 refine wpAnyH_ready (rs:=[5,9]) (by kernel_rfl) (by simp) ?_
 refine AllReadyH.cons (i:=5) rfl (fun K2 hK2 => ?_) ?more53
 ·skip
  go_simp
  go_at_call 49
  refine (HTL.out w3.drew (HP3.out.below (show Gr w3 w3.drew from (by repeat (first | exact Gr.refl _ | (refine Gr.step ?_ (by assumption)) | (refine Gr.alloc ?_ _) | (refine Gr.drew ?_)))))).mono ?_
  rintro ev w105 ⟨rfl,b105⟩
  try go_wp2_with fail
  refine hK2.out _ _ (show Gr w3 _ from (by repeat (first | exact Gr.refl _ | (refine Gr.step ?_ (by assumption)) | (refine Gr.alloc ?_ _) | (refine Gr.drew ?_)))) (fun hHeld2 => ?_)
  clear hK2 K2
  try simp only [pu]
  refine tk (i:=6) (v:=?v54) rfl ?y54 ?r54
  case y54 => (intro w hSw;(try dsimp only at hSw);go_simp;(try with_reducible rfl))
  try simp only [pu]
  refine tk (i:=7) (v:=?v55) rfl ?y55 ?r55
  case y55 => (intro w hSw;(try dsimp only at hSw);go_simp;(try with_reducible rfl))
  try simp only [pu]
  refine tk (i:=8) (v:=?v56) rfl ?y56 ?r56
  case y56 => (intro w hSw;(try dsimp only at hSw);go_simp;(try with_reducible rfl))
  try simp only [pu]
  refine wpAnyH_ready (rs:=[9]) (by kernel_rfl) (by simp) ?_
  refine AllReadyH.cons (i:=9) rfl (fun K2 hK2 => ?_) AllReadyH.nil
  go_simp
  obtain ⟨wa106,hwa106⟩:∃ x,(w105.alloc (.cells (List.replicate 32 (Value.int .u8 0)).toArray 39)) = x:=⟨_,rfl⟩
  have bwa106:Below w105.heap.size w105 wa106:=by rw [← hwa106];exact ((Below.refl _ w105).alloc (Nat.le_refl _) _)
  have Rwa106:Hid (wa106.heap[w105.heap.size]? = some (.cells (List.replicate 32 (Value.int .u8 0)).toArray 39 (0,0))):=hid (by rw [← hwa106];exact heap_at w105 _ _ rfl)
  simp only [List.replicate] at hwa106
  rw [hwa106]
  clear hwa106
  refine hK2.out _ _ (show Gr w3 wa106 from (Gr.step (Gr.step (Gr.drew (Gr.refl w3)) b105) bwa106)) (fun hHeld2 => ?_)
  clear hK2 K2
  try simp only [pu]
  refine wpAnyH_ready (rs:=[10]) (by kernel_rfl) (by simp) ?_
  refine AllReadyH.cons (i:=10) rfl (fun K2 hK2 => ?_) AllReadyH.nil
  rw [if_pos (by rfl)]
  refine wp_store_row 39 _ _ rfl w105.heap.size vp rfl rfl 39 _ Rwa106.out Ivp.out (by rw [Zvp.out];simp) Ovp.out ?_
  refine hK2.out _ _ (show Gr w3 _ from (below_setRow (show Gr w3 wa106 from (Gr.step (Gr.step (Gr.drew (Gr.refl w3)) b105) bwa106)) w105.heap.size vp (Below.size (show Gr w3 w105 from (Gr.step (Gr.drew (Gr.refl w3)) b105))))) (fun hHeld2 => ?_)
  clear hK2 K2
  try simp only [pu]
  refine tk (i:=11) (v:=?v57) rfl ?y57 ?r57
  case y57 => (intro w hSw;(try dsimp only at hSw);go_simp;(try with_reducible rfl))
  try simp only [pu]
  refine wpAnyH_done (by kernel_rfl) ?_ _
  go_wp2_with fail
  have B9:Hid (Below w3.heap.size w3 (wa106.setRow w105.heap.size vp)):=hid (show Gr w3 (wa106.setRow w105.heap.size vp) from (below_setRow (show Gr w3 wa106 from (Gr.step (Gr.step (Gr.drew (Gr.refl w3)) b105) bwa106)) w105.heap.size vp (Below.size (show Gr w3 w105 from (Gr.step (Gr.drew (Gr.refl w3)) b105)))))
  have R9:Hid ((wa106.setRow w105.heap.size vp).heap[w105.heap.size]? = some (.cells vp 39 (0,0))):=hid (setRow_heap _ _ _ _ _ _ Rwa106.out)
  have HN9:Hid (X0+5 < w105.heap.size):=hid (by have:=HXL.out;have:=Below.size (show Gr w3 w105 from (Gr.step (Gr.drew (Gr.refl w3)) b105));omega)
  obtain ⟨r9,hr9⟩:∃ z,w105.heap.size = z:=⟨_,rfl⟩
  obtain ⟨wy,hwy⟩:∃ z,(wa106.setRow w105.heap.size vp) = z:=⟨_,rfl⟩
  rw [hwy] at B9 R9 ⊢
  rw [hr9] at R9 HN9 ⊢
  clear hwy hr9 hHeld hHeld2
  refine wp_region_held_drew (S:=Gr wy) (by kernel_rfl) (Gr.refl wy).drew (fun hHeld => ?_)
  refine tk (i:=0) (v:=?v58) rfl ?y58 ?r58
  case y58 => (intro w hSw;(try dsimp only at hSw);obtain ⟨z1,z2,z3,z4,z5,z6⟩:=K9.out w (Gr.step B9.out hSw);go_simp;(try with_reducible rfl))
  try simp only [pu]
  refine tk (i:=1) (v:=?v59) rfl ?y59 ?r59
  case y59 => (intro w hSw;(try dsimp only at hSw);go_simp;(try with_reducible rfl))
  try simp only [pu]
  refine tk (i:=2) (v:=?v60) rfl ?y60 ?r60
  case y60 => (intro w hSw;(try dsimp only at hSw);go_simp;(try with_reducible rfl))
  try simp only [pu]
  refine tk (i:=3) (v:=?v61) rfl ?y61 ?r61
  case y61 => (intro w hSw;(try dsimp only at hSw);obtain ⟨z1,z2,z3,z4,z5,z6⟩:=K9.out w (Gr.step B9.out hSw);go_simp;(try with_reducible rfl))
  try simp only [pu]
  refine tk (i:=4) (v:=?v62) rfl ?y62 ?r62
  case y62 => (intro w hSw;(try dsimp only at hSw);obtain ⟨z1,z2,z3,z4,z5,z6⟩:=K9.out w (Gr.step B9.out hSw);go_simp;(try with_reducible rfl))
  try simp only [pu]
  refine wpAnyH_ready (rs:=[5,9]) (by kernel_rfl) (by simp) ?_
  refine AllReadyH.cons (i:=5) rfl (fun K2 hK2 => ?_) ?more63
  ·skip
   go_simp
   go_at_call 49
   refine (HTR.out wy.drew (HP3.out.below (show Gr w3 wy.drew from Gr.step B9.out (show Gr wy wy.drew from (by repeat (first | exact Gr.refl _ | (refine Gr.step ?_ (by assumption)) | (refine Gr.alloc ?_ _) | (refine Gr.drew ?_))))))).mono ?_
   rintro ev w107 ⟨rfl,b107⟩
   try go_wp2_with fail
   refine hK2.out _ _ (show Gr wy _ from (by repeat (first | exact Gr.refl _ | (refine Gr.step ?_ (by assumption)) | (refine Gr.alloc ?_ _) | (refine Gr.drew ?_)))) (fun hHeld2 => ?_)
   clear hK2 K2
   try simp only [pu]
   refine tk (i:=6) (v:=?v64) rfl ?y64 ?r64
   case y64 => (intro w hSw;(try dsimp only at hSw);go_simp;(try with_reducible rfl))
   try simp only [pu]
   refine tk (i:=7) (v:=?v65) rfl ?y65 ?r65
   case y65 => (intro w hSw;(try dsimp only at hSw);go_simp;(try with_reducible rfl))
   try simp only [pu]
   refine tk (i:=8) (v:=?v66) rfl ?y66 ?r66
   case y66 => (intro w hSw;(try dsimp only at hSw);go_simp;(try with_reducible rfl))
   try simp only [pu]
   refine wpAnyH_ready (rs:=[9]) (by kernel_rfl) (by simp) ?_
   refine AllReadyH.cons (i:=9) rfl (fun K2 hK2 => ?_) AllReadyH.nil
   go_simp
   obtain ⟨wa108,hwa108⟩:∃ x,(w107.alloc (.cells (List.replicate 32 (Value.int .u8 0)).toArray 39)) = x:=⟨_,rfl⟩
   have bwa108:Below w107.heap.size w107 wa108:=by rw [← hwa108];exact ((Below.refl _ w107).alloc (Nat.le_refl _) _)
   have Rwa108:Hid (wa108.heap[w107.heap.size]? = some (.cells (List.replicate 32 (Value.int .u8 0)).toArray 39 (0,0))):=hid (by rw [← hwa108];exact heap_at w107 _ _ rfl)
   simp only [List.replicate] at hwa108
   rw [hwa108]
   clear hwa108
   refine hK2.out _ _ (show Gr wy wa108 from (Gr.step (Gr.step (Gr.drew (Gr.refl wy)) b107) bwa108)) (fun hHeld2 => ?_)
   clear hK2 K2
   try simp only [pu]
   refine wpAnyH_ready (rs:=[10]) (by kernel_rfl) (by simp) ?_
   refine AllReadyH.cons (i:=10) rfl (fun K2 hK2 => ?_) AllReadyH.nil
   rw [if_pos (by rfl)]
   refine wp_store_row 39 _ _ rfl w107.heap.size vq rfl rfl 39 _ Rwa108.out Ivq.out (by rw [Zvq.out];simp) Ovq.out ?_
   refine hK2.out _ _ (show Gr wy _ from (below_setRow (show Gr wy wa108 from (Gr.step (Gr.step (Gr.drew (Gr.refl wy)) b107) bwa108)) w107.heap.size vq (Below.size (show Gr wy w107 from (Gr.step (Gr.drew (Gr.refl wy)) b107))))) (fun hHeld2 => ?_)
   clear hK2 K2
   try simp only [pu]
   refine tk (i:=11) (v:=?v67) rfl ?y67 ?r67
   case y67 => (intro w hSw;(try dsimp only at hSw);go_simp;(try with_reducible rfl))
   try simp only [pu]
   refine wpAnyH_done (by kernel_rfl) ?_ _
   go_wp2_with fail
   have B10:Hid (Below wy.heap.size wy (wa108.setRow w107.heap.size vq)):=hid (show Gr wy (wa108.setRow w107.heap.size vq) from (below_setRow (show Gr wy wa108 from (Gr.step (Gr.step (Gr.drew (Gr.refl wy)) b107) bwa108)) w107.heap.size vq (Below.size (show Gr wy w107 from (Gr.step (Gr.drew (Gr.refl wy)) b107)))))
   have R10:Hid ((wa108.setRow w107.heap.size vq).heap[w107.heap.size]? = some (.cells vq 39 (0,0))):=hid (setRow_heap _ _ _ _ _ _ Rwa108.out)
   have HN10:Hid (X0+5 < w107.heap.size):=hid (by have:=HN9.out;have:=(Array.getElem?_eq_some_iff.1 R9.out).1;have:=Below.size (show Gr wy w107 from (Gr.step (Gr.drew (Gr.refl wy)) b107));omega)
   obtain ⟨r10,hr10⟩:∃ z,w107.heap.size = z:=⟨_,rfl⟩
   obtain ⟨wz,hwz⟩:∃ z,(wa108.setRow w107.heap.size vq) = z:=⟨_,rfl⟩
   rw [hwz] at B10 R10 ⊢
   rw [hr10] at R10 HN10 ⊢
   clear hwz hr10 hHeld hHeld2
   have R9z:Hid (wz.heap[r9]? = some (.cells vp 39 (0,0))):=hid ((B10.out.block _ (Array.getElem?_eq_some_iff.1 R9.out).1).trans R9.out)
   have N9:Hid (X0+5 < r9 ∧ X0+5 < r10):=hid ⟨HN9.out,HN10.out⟩
   have B3z:Hid (Below w3.heap.size w3 wz):=hid (B9.out.trans (B10.out.mono B9.out.size))
   have HPz:=hid (HP3.out.below B3z.out)
   have HBLz:Hid (Below w.heap.size w wz):=hid (HBL.out.trans (B3z.out.mono HBL.out.size))
   obtain ⟨t0,RA0⟩:=HPz.out.fa
   obtain ⟨u0,RB0⟩:=HPz.out.fb
   have RA0:=hid RA0
   have RB0:=hid RB0
   have LAB:Hid (X0+1 < wz.heap.size ∧ X0+2 < wz.heap.size):=hid ⟨(Array.getElem?_eq_some_iff.1 RA0.out).1,(Array.getElem?_eq_some_iff.1 RB0.out).1⟩
   have KE:Hid (∀ w',But (fun q => q = X0+1 ∨ q = X0+2) wz w' → w'.cell? ⟨X0+3,0,none⟩ = some (.func (.func 57) #[] #[.pointer (some ⟨X0,0,none⟩),.pointer (some ⟨X0+4,0,none⟩),.pointer (some ⟨X0+3,0,none⟩)]) ∧ w'.cell? ⟨xl,0,none⟩ = some (.int .u64 b) ∧ w'.cell? ⟨xl,1,none⟩ = some (.int .u64 (b+k)) ∧ w'.cell? ⟨xl+1,0,none⟩ = some (.int .u64 (b+k)) ∧ w'.cell? ⟨xl+1,1,none⟩ = some (.int .u64 e)):=hid (fun w' q => by
    obtain ⟨c1,c2,c3,c4,c5,c6⟩:=K9.out wz B3z.out
    have n1:=HXL.out.1
    exact ⟨q.cell (by rw [cell_of_row wz (X0+3) 0 _ 108 (0,0) HPz.out.pre.ps];rfl) (by show ¬ (X0+3 = X0+1 ∨ X0+3 = X0+2);omega),q.cell c3 (by show ¬ (xl = X0+1 ∨ xl = X0+2);omega),q.cell c4 (by show ¬ (xl = X0+1 ∨ xl = X0+2);omega),q.cell c5 (by show ¬ (xl+1 = X0+1 ∨ xl+1 = X0+2);omega),q.cell c6 (by show ¬ (xl+1 = X0+1 ∨ xl+1 = X0+2);omega)⟩)
   refine wp_region_held_drew (S:=But (fun q => q = X0+1 ∨ q = X0+2) wz) (by kernel_rfl) (But.refl (fun q => q = X0+1 ∨ q = X0+2) wz).drew (fun hHeld => ?_)
   refine tw (i:=0) rfl (yieldsIf_load_row (by rfl) 39 _ (by rfl) r9 (by rfl) 39 vp (0,0) _ (fun w h => (But.same h _ (Array.getElem?_eq_some_iff.1 R9z.out).1 (by have:=N9.out.1;omega)).trans R9z.out) Tryz.underlying39 rfl Ivp.out) ?_
   try simp only [pu]
   refine tw (i:=1) rfl (yieldsIf_load_row (by rfl) 39 _ (by rfl) r10 (by rfl) 39 vq (0,0) _ (fun w h => (But.same h _ (Array.getElem?_eq_some_iff.1 R10.out).1 (by have:=N9.out.2;omega)).trans R10.out) Tryz.underlying39 rfl Ivq.out) ?_
   try simp only [pu]
   refine tk (i:=3) (v:=?v70) rfl ?y70 ?r70
   case y70 => (intro w hSw;(try dsimp only at hSw);obtain ⟨z1,z2,z3,z4,z5⟩:=KE.out w hSw;go_simp;(try with_reducible rfl))
   try simp only [pu]
   refine tk (i:=4) (v:=?v71) rfl ?y71 ?r71
   case y71 => (intro w hSw;(try dsimp only at hSw);obtain ⟨z1,z2,z3,z4,z5⟩:=KE.out w hSw;go_simp;(try with_reducible rfl))
   try simp only [pu]
   refine tk (i:=6) (v:=?v72) rfl ?y72 ?r72
   case y72 => (intro w hSw;(try dsimp only at hSw);obtain ⟨z1,z2,z3,z4,z5⟩:=KE.out w hSw;go_simp;(try with_reducible rfl))
   try simp only [pu]
   refine tk (i:=7) (v:=?v73) rfl ?y73 ?r73
   case y73 => (intro w hSw;(try dsimp only at hSw);obtain ⟨z1,z2,z3,z4,z5⟩:=KE.out w hSw;go_simp;(try with_reducible rfl))
   try simp only [pu]
   refine wpAnyH_ready (rs:=[2]) (by kernel_rfl) (by simp) ?_
   refine AllReadyH.cons (i:=2) rfl (fun K2 hK2 => ?_) AllReadyH.nil
   go_simp
   go_at_call 53
   refine (HT1.out wz.drew).mono ?_
   rintro ev w109 ⟨⟨s1,rfl,hs1,hz1⟩,b109⟩
   try go_wp2_with fail
   have HS1:=hid (And.intro hs1 hz1)
   refine hK2.out _ _ (show But (fun q => q = X0+1 ∨ q = X0+2) wz _ from ((But.refl (fun q => q = X0+1 ∨ q = X0+2) wz).drew.below b109)) (fun hHeld2 => ?_)
   clear hK2 K2
   try simp only [Act.put,List.getElem_toArray,List.getElem_cons_zero,List.getElem_cons_succ,List.setIfInBounds_toArray,List.set_cons_zero,List.set_cons_succ]
   refine wpAnyH_ready (rs:=[5]) (by kernel_rfl) (by simp) ?_
   refine AllReadyH.cons (i:=5) rfl (fun K2 hK2 => ?_) AllReadyH.nil
   go_simp
   go_at_call 57
   refine (HSL.out w109 (HPz.out.below (show Gr wz w109 from (by repeat (first | exact Gr.refl _ | (refine Gr.step ?_ (by assumption)) | (refine Gr.alloc ?_ _) | (refine Gr.drew ?_))))).pre).mono ?_
   rintro ev w110 ⟨rfl,b110⟩
   try go_wp2_with fail
   refine hK2.out _ _ (show But (fun q => q = X0+1 ∨ q = X0+2) wz _ from (((But.refl (fun q => q = X0+1 ∨ q = X0+2) wz).drew.below b109).below b110)) (fun hHeld2 => ?_)
   clear hK2 K2
   try simp only [Act.put,List.getElem_toArray,List.getElem_cons_zero,List.getElem_cons_succ,List.setIfInBounds_toArray,List.set_cons_zero,List.set_cons_succ]
   refine wpAnyH_ready (rs:=[8]) (by kernel_rfl) (by simp) ?_
   refine AllReadyH.cons (i:=8) rfl (fun K2 hK2 => ?_) AllReadyH.nil
   go_simp
   go_at_call 57
   refine (HSR.out w110 (HPz.out.below (show Gr wz w110 from (by repeat (first | exact Gr.refl _ | (refine Gr.step ?_ (by assumption)) | (refine Gr.alloc ?_ _) | (refine Gr.drew ?_))))).pre).mono ?_
   rintro ev w111 ⟨rfl,b111⟩
   try go_wp2_with fail
   refine hK2.out _ _ (show But (fun q => q = X0+1 ∨ q = X0+2) wz _ from ((((But.refl (fun q => q = X0+1 ∨ q = X0+2) wz).drew.below b109).below b110).below b111)) (fun hHeld2 => ?_)
   clear hK2 K2
   try simp only [Act.put,List.getElem_toArray,List.getElem_cons_zero,List.getElem_cons_succ,List.setIfInBounds_toArray,List.set_cons_zero,List.set_cons_succ]
   refine wpAnyH_ready (rs:=[9]) (by kernel_rfl) (by simp) ?_
   refine AllReadyH.cons (i:=9) rfl (fun K2 hK2 => ?_) AllReadyH.nil
   go_simp
   go_at_call 53
   refine (HT2.out w111).mono ?_
   rintro ev w112 ⟨⟨s2,rfl,hs2,hz2⟩,b112⟩
   try go_wp2_with fail
   have HS2:=hid (And.intro hs2 hz2)
   refine hK2.out _ _ (show But (fun q => q = X0+1 ∨ q = X0+2) wz _ from (((((But.refl (fun q => q = X0+1 ∨ q = X0+2) wz).drew.below b109).below b110).below b111).below b112)) (fun hHeld2 => ?_)
   clear hK2 K2
   try simp only [Act.put,List.getElem_toArray,List.getElem_cons_zero,List.getElem_cons_succ,List.setIfInBounds_toArray,List.set_cons_zero,List.set_cons_succ]
   refine wpAnyH_ready (rs:=[10]) (by kernel_rfl) (by simp) ?_
   refine AllReadyH.cons (i:=10) rfl (fun K2 hK2 => ?_) AllReadyH.nil
   rw [if_pos (by rfl)]
   refine wp_store_one 9 _ _ rfl (X0+1) (.string s1) rfl (by rfl) rfl 9 _ (((Below.block (show Gr wz w112 from (Gr.step (Gr.step (Gr.step (Gr.step (Gr.drew (Gr.refl wz)) b109) b110) b111) b112)) _ LAB.out.1).trans RA0.out)) (by kernel_rfl) ?_
   refine hK2.out _ _ (show But (fun q => q = X0+1 ∨ q = X0+2) wz _ from ((((((But.refl (fun q => q = X0+1 ∨ q = X0+2) wz).drew.below b109).below b110).below b111).below b112).setRow (X0+1) #[(.string s1)] (fun _ => Or.inl rfl))) (fun hHeld2 => ?_)
   clear hK2 K2
   try simp only [Act.put,List.getElem_toArray,List.getElem_cons_zero,List.getElem_cons_succ]
   refine wpAnyH_ready (rs:=[11]) (by kernel_rfl) (by simp) ?_
   refine AllReadyH.cons (i:=11) rfl (fun K2 hK2 => ?_) AllReadyH.nil
   rw [if_pos (by rfl)]
   refine wp_store_one 9 _ _ rfl (X0+2) (.string s2) rfl (by rfl) rfl 9 _ ((setRow_other _ _ _ _ (by omega)).trans (((Below.block (show Gr wz w112 from (Gr.step (Gr.step (Gr.step (Gr.step (Gr.drew (Gr.refl wz)) b109) b110) b111) b112)) _ LAB.out.2).trans RB0.out))) (by kernel_rfl) ?_
   refine hK2.out _ _ (show But (fun q => q = X0+1 ∨ q = X0+2) wz _ from (((((((But.refl (fun q => q = X0+1 ∨ q = X0+2) wz).drew.below b109).below b110).below b111).below b112).setRow (X0+1) #[(.string s1)] (fun _ => Or.inl rfl)).setRow (X0+2) #[(.string s2)] (fun _ => Or.inr rfl))) (fun hHeld2 => ?_)
   clear hK2 K2
   try simp only [Act.put,List.getElem_toArray,List.getElem_cons_zero,List.getElem_cons_succ]
   refine wpAnyH_done (by kernel_rfl) ?_ _
   have RA:Hid (((w112.setRow (X0+1) #[(.string s1)]).setRow (X0+2) #[(.string s2)]).heap[X0+1]? = some (.cells #[.string s1] 9 (0,0))):=hid ((setRow_other _ _ _ _ (by omega)).trans (setRow_heap w112 _ _ _ _ _ ((Below.block (show Gr wz w112 from (Gr.step (Gr.step (Gr.step (Gr.step (Gr.drew (Gr.refl wz)) b109) b110) b111) b112)) _ LAB.out.1).trans RA0.out)))
   have RB:Hid (((w112.setRow (X0+1) #[(.string s1)]).setRow (X0+2) #[(.string s2)]).heap[X0+2]? = some (.cells #[.string s2] 9 (0,0))):=hid (setRow_heap _ _ _ _ _ _ ((setRow_other w112 _ _ _ (by omega)).trans ((Below.block (show Gr wz w112 from (Gr.step (Gr.step (Gr.step (Gr.step (Gr.drew (Gr.refl wz)) b109) b110) b111) b112)) _ LAB.out.2).trans RB0.out)))
   have HBK:Hid (But (fun q => q = X0+1 ∨ q = X0+2) wz ((w112.setRow (X0+1) #[(.string s1)]).setRow (X0+2) #[(.string s2)])):=hid hHeld2
   obtain ⟨wk,hwk⟩:∃ z,((w112.setRow (X0+1) #[(.string s1)]).setRow (X0+2) #[(.string s2)]) = z:=⟨_,rfl⟩
   rw [hwk] at RA RB HBK ⊢
   clear hwk hHeld hHeld2
   have HFB:Hid (But (fun q => q = X0+1 ∨ q = X0+2) w wk):=hid ((But.new HBLz.out).trans HBK.out)
   have HPk:=hid (HPz.out.but HBK.out ⟨_,RA.out⟩ ⟨_,RB.out⟩)
   have qa:wk.cell? ⟨X0+1,0,none⟩ = some (.string s1):=by rw [cell_of_row wk (X0+1) 0 _ 9 (0,0) RA.out];rfl
   have qb:wk.cell? ⟨X0+2,0,none⟩ = some (.string s2):=by rw [cell_of_row wk (X0+2) 0 _ 9 (0,0) RB.out];rfl
   have q5:wk.cell? ⟨X0+5,0,none⟩ = some (.func (.func 59) #[] #[.pointer (some ⟨X0,0,none⟩),.pointer (some ⟨X0+4,0,none⟩),.pointer (some ⟨X0+1,0,none⟩),.pointer (some ⟨X0+2,0,none⟩),.pointer (some ⟨X0+3,0,none⟩),.pointer (some ⟨X0+5,0,none⟩)]):=by rw [cell_of_row wk (X0+5) 0 _ 113 (0,0) HPk.out.pw];rfl
   obtain ⟨c1,c2,c3,c4,c5⟩:=KE.out wk HBK.out
   by_cases hq:s1 = s2
   ·have hpx:p ++ q = x ++ y:=by
     have:=congrArg bOf hq
     rw [HS1.out.1,HS2.out.1] at this
     simpa using this
    have hO:=hout.out
    rw [if_pos hpx] at hO
    have hO:=hid hO
    clear hpx hout
    go_wp2_with fail
    refine (IHL.out wk HPk.out).mono ?_
    rintro ev w5 ⟨s,t,rfl,ra,rb,hr,hB5⟩
    have HP5:=hid (HPk.out.but hB5 ⟨_,ra⟩ ⟨_,rb⟩)
    have HB5:=hid hB5
    have RR5:=hid (And.intro ra (And.intro rb hr))
    have q6:w5.cell? ⟨X0+5,0,none⟩ = some (.func (.func 59) #[] #[.pointer (some ⟨X0,0,none⟩),.pointer (some ⟨X0+4,0,none⟩),.pointer (some ⟨X0+1,0,none⟩),.pointer (some ⟨X0+2,0,none⟩),.pointer (some ⟨X0+3,0,none⟩),.pointer (some ⟨X0+5,0,none⟩)]):=by rw [cell_of_row w5 (X0+5) 0 _ 113 (0,0) HP5.out.pw];rfl
    obtain ⟨d1,d2,d3,d4,d5⟩:=KE.out w5 (HBK.out.trans HB5.out)
    clear ra rb hr hB5 qa qb q5 c1 c2 c3 c4 c5 hq IHL
    cases rl with
    | some r =>
     simp only [Option.isSome_some]
     simp only at hO
     go_wp2
     go_ret
     exact ⟨s,t,by rw [← hO.out];rfl,RR5.out.1,RR5.out.2.1,(fun x hx => by rw [← hO.out] at hx;exact RR5.out.2.2 x hx),HFB.out.trans HB5.out⟩
    | none =>
     simp only [Option.isSome_none]
     simp only at hO
     go_wp2_with fail
     refine (IHR.out w5 HP5.out).mono ?_
     rintro ev w6 ⟨s',t',rfl,ra,rb,hr,hB6⟩
     have HB6:=hid hB6
     have RR6:=hid (And.intro ra (And.intro rb hr))
     clear ra rb hr hB6 q6 d1 d2 d3 d4 d5
     go_wp2
     go_ret
     exact ⟨s',t',by rw [← hO.out];rfl,RR6.out.1,RR6.out.2.1,(fun x hx => by rw [← hO.out] at hx;exact RR6.out.2.2 x hx),(HFB.out.trans HB5.out).trans HB6.out⟩
   ·have hpx:¬ p ++ q = x ++ y:=fun h => hq (bOf_inj (by rw [HS1.out.1,HS2.out.1,h]))
    have hO:=hout.out
    rw [if_neg hpx] at hO
    have hO:=hid hO
    clear hpx hout
    have hq1:¬ s1.toList = s2.toList:=fun h => by rw [Go.ByteArray.toList_eq,Go.ByteArray.toList_eq] at h;exact hq (ByteArray.ext (Array.toList_inj.1 h))
    have hq2:decide (s1.toList = s2.toList) = false:=by simp [hq1]
    have hq3:(s1.toList == s2.toList) = false:=by simp [hq1]
    have hq4:decide (s1 = s2) = false:=by simp [hq]
    go_wp2
    go_ret
    exact ⟨s1,s2,by rw [← hO.out];first | rfl | simp [hq1],RA.out,RB.out,(fun x hx => by rw [← hO.out] at hx;cases hx;exact ⟨HS1.out.1,HS2.out.1⟩),HFB.out⟩
  refine AllReadyH.cons (i:=9) rfl (fun K2 hK2 => ?_) ?more74
  ·skip
   go_simp
   obtain ⟨wa113,hwa113⟩:∃ x,(wy.alloc (.cells (List.replicate 32 (Value.int .u8 0)).toArray 39)).drew = x:=⟨_,rfl⟩
   have bwa113:Below wy.heap.size wy wa113:=by rw [← hwa113];exact ((Below.refl _ wy).alloc (Nat.le_refl _) _).drew
   have Rwa113:Hid (wa113.heap[wy.heap.size]? = some (.cells (List.replicate 32 (Value.int .u8 0)).toArray 39 (0,0))):=hid (by rw [← hwa113];exact heap_at wy _ _ rfl)
   simp only [List.replicate] at hwa113
   rw [hwa113]
   clear hwa113
   refine hK2.out _ _ (show Gr wy wa113 from (Gr.step (Gr.refl wy) bwa113)) (fun hHeld2 => ?_)
   clear hK2 K2
   try simp only [pu]
   refine wpAnyH_ready (rs:=[5]) (by kernel_rfl) (by simp) ?_
   refine AllReadyH.cons (i:=5) rfl (fun K2 hK2 => ?_) AllReadyH.nil
   go_simp
   go_at_call 49
   refine (HTR.out wa113 (HP3.out.below (show Gr w3 wa113 from Gr.step B9.out (show Gr wy wa113 from (by repeat (first | exact Gr.refl _ | (refine Gr.step ?_ (by assumption)) | (refine Gr.alloc ?_ _) | (refine Gr.drew ?_))))))).mono ?_
   rintro ev w114 ⟨rfl,b114⟩
   try go_wp2_with fail
   refine hK2.out _ _ (show Gr wy _ from (by repeat (first | exact Gr.refl _ | (refine Gr.step ?_ (by assumption)) | (refine Gr.alloc ?_ _) | (refine Gr.drew ?_)))) (fun hHeld2 => ?_)
   clear hK2 K2
   try simp only [pu]
   have Rbw114:Hid (w114.heap[wy.heap.size]? = some (.cells (List.replicate 32 (Value.int .u8 0)).toArray 39 (0,0))):=hid ((b114.block _ (Array.getElem?_eq_some_iff.1 Rwa113.out).1).trans Rwa113.out)
   refine tk (i:=6) (v:=?v75) rfl ?y75 ?r75
   case y75 => (intro w hSw;(try dsimp only at hSw);go_simp;(try with_reducible rfl))
   try simp only [pu]
   refine tk (i:=7) (v:=?v76) rfl ?y76 ?r76
   case y76 => (intro w hSw;(try dsimp only at hSw);go_simp;(try with_reducible rfl))
   try simp only [pu]
   refine tk (i:=8) (v:=?v77) rfl ?y77 ?r77
   case y77 => (intro w hSw;(try dsimp only at hSw);go_simp;(try with_reducible rfl))
   try simp only [pu]
   refine wpAnyH_ready (rs:=[10]) (by kernel_rfl) (by simp) ?_
   refine AllReadyH.cons (i:=10) rfl (fun K2 hK2 => ?_) AllReadyH.nil
   rw [if_pos (by rfl)]
   refine wp_store_row 39 _ _ rfl wy.heap.size vq rfl rfl 39 _ Rbw114.out Ivq.out (by rw [Zvq.out];simp) Ovq.out ?_
   refine hK2.out _ _ (show Gr wy _ from (below_setRow (show Gr wy w114 from (Gr.step (Gr.step (Gr.refl wy) bwa113) b114)) wy.heap.size vq (Nat.le_refl _))) (fun hHeld2 => ?_)
   clear hK2 K2
   try simp only [pu]
   refine tk (i:=11) (v:=?v78) rfl ?y78 ?r78
   case y78 => (intro w hSw;(try dsimp only at hSw);go_simp;(try with_reducible rfl))
   try simp only [pu]
   refine wpAnyH_done (by kernel_rfl) ?_ _
   go_wp2_with fail
   have B10:Hid (Below wy.heap.size wy (w114.setRow wy.heap.size vq)):=hid (show Gr wy (w114.setRow wy.heap.size vq) from (below_setRow (show Gr wy w114 from (Gr.step (Gr.step (Gr.refl wy) bwa113) b114)) wy.heap.size vq (Nat.le_refl _)))
   have R10:Hid ((w114.setRow wy.heap.size vq).heap[wy.heap.size]? = some (.cells vq 39 (0,0))):=hid (setRow_heap _ _ _ _ _ _ Rbw114.out)
   have HN10:Hid (X0+5 < wy.heap.size):=hid (by have:=HN9.out;have:=(Array.getElem?_eq_some_iff.1 R9.out).1;have:=Nat.le_refl wy.heap.size;omega)
   obtain ⟨r10,hr10⟩:∃ z,wy.heap.size = z:=⟨_,rfl⟩
   obtain ⟨wz,hwz⟩:∃ z,(w114.setRow wy.heap.size vq) = z:=⟨_,rfl⟩
   rw [hwz] at B10 R10 ⊢
   rw [hr10] at R10 HN10 ⊢
   clear hwz hr10 hHeld hHeld2
   have R9z:Hid (wz.heap[r9]? = some (.cells vp 39 (0,0))):=hid ((B10.out.block _ (Array.getElem?_eq_some_iff.1 R9.out).1).trans R9.out)
   have N9:Hid (X0+5 < r9 ∧ X0+5 < r10):=hid ⟨HN9.out,HN10.out⟩
   have B3z:Hid (Below w3.heap.size w3 wz):=hid (B9.out.trans (B10.out.mono B9.out.size))
   have HPz:=hid (HP3.out.below B3z.out)
   have HBLz:Hid (Below w.heap.size w wz):=hid (HBL.out.trans (B3z.out.mono HBL.out.size))
   obtain ⟨t0,RA0⟩:=HPz.out.fa
   obtain ⟨u0,RB0⟩:=HPz.out.fb
   have RA0:=hid RA0
   have RB0:=hid RB0
   have LAB:Hid (X0+1 < wz.heap.size ∧ X0+2 < wz.heap.size):=hid ⟨(Array.getElem?_eq_some_iff.1 RA0.out).1,(Array.getElem?_eq_some_iff.1 RB0.out).1⟩
   have KE:Hid (∀ w',But (fun q => q = X0+1 ∨ q = X0+2) wz w' → w'.cell? ⟨X0+3,0,none⟩ = some (.func (.func 57) #[] #[.pointer (some ⟨X0,0,none⟩),.pointer (some ⟨X0+4,0,none⟩),.pointer (some ⟨X0+3,0,none⟩)]) ∧ w'.cell? ⟨xl,0,none⟩ = some (.int .u64 b) ∧ w'.cell? ⟨xl,1,none⟩ = some (.int .u64 (b+k)) ∧ w'.cell? ⟨xl+1,0,none⟩ = some (.int .u64 (b+k)) ∧ w'.cell? ⟨xl+1,1,none⟩ = some (.int .u64 e)):=hid (fun w' q => by
    obtain ⟨c1,c2,c3,c4,c5,c6⟩:=K9.out wz B3z.out
    have n1:=HXL.out.1
    exact ⟨q.cell (by rw [cell_of_row wz (X0+3) 0 _ 108 (0,0) HPz.out.pre.ps];rfl) (by show ¬ (X0+3 = X0+1 ∨ X0+3 = X0+2);omega),q.cell c3 (by show ¬ (xl = X0+1 ∨ xl = X0+2);omega),q.cell c4 (by show ¬ (xl = X0+1 ∨ xl = X0+2);omega),q.cell c5 (by show ¬ (xl+1 = X0+1 ∨ xl+1 = X0+2);omega),q.cell c6 (by show ¬ (xl+1 = X0+1 ∨ xl+1 = X0+2);omega)⟩)
   refine wp_region_held_drew (S:=But (fun q => q = X0+1 ∨ q = X0+2) wz) (by kernel_rfl) (But.refl (fun q => q = X0+1 ∨ q = X0+2) wz).drew (fun hHeld => ?_)
   refine tw (i:=0) rfl (yieldsIf_load_row (by rfl) 39 _ (by rfl) r9 (by rfl) 39 vp (0,0) _ (fun w h => (But.same h _ (Array.getElem?_eq_some_iff.1 R9z.out).1 (by have:=N9.out.1;omega)).trans R9z.out) Tryz.underlying39 rfl Ivp.out) ?_
   try simp only [pu]
   refine tw (i:=1) rfl (yieldsIf_load_row (by rfl) 39 _ (by rfl) r10 (by rfl) 39 vq (0,0) _ (fun w h => (But.same h _ (Array.getElem?_eq_some_iff.1 R10.out).1 (by have:=N9.out.2;omega)).trans R10.out) Tryz.underlying39 rfl Ivq.out) ?_
   try simp only [pu]
   refine tk (i:=3) (v:=?v81) rfl ?y81 ?r81
   case y81 => (intro w hSw;(try dsimp only at hSw);obtain ⟨z1,z2,z3,z4,z5⟩:=KE.out w hSw;go_simp;(try with_reducible rfl))
   try simp only [pu]
   refine tk (i:=4) (v:=?v82) rfl ?y82 ?r82
   case y82 => (intro w hSw;(try dsimp only at hSw);obtain ⟨z1,z2,z3,z4,z5⟩:=KE.out w hSw;go_simp;(try with_reducible rfl))
   try simp only [pu]
   refine tk (i:=6) (v:=?v83) rfl ?y83 ?r83
   case y83 => (intro w hSw;(try dsimp only at hSw);obtain ⟨z1,z2,z3,z4,z5⟩:=KE.out w hSw;go_simp;(try with_reducible rfl))
   try simp only [pu]
   refine tk (i:=7) (v:=?v84) rfl ?y84 ?r84
   case y84 => (intro w hSw;(try dsimp only at hSw);obtain ⟨z1,z2,z3,z4,z5⟩:=KE.out w hSw;go_simp;(try with_reducible rfl))
   try simp only [pu]
   refine wpAnyH_ready (rs:=[2]) (by kernel_rfl) (by simp) ?_
   refine AllReadyH.cons (i:=2) rfl (fun K2 hK2 => ?_) AllReadyH.nil
   go_simp
   go_at_call 53
   refine (HT1.out wz.drew).mono ?_
   rintro ev w115 ⟨⟨s1,rfl,hs1,hz1⟩,b115⟩
   try go_wp2_with fail
   have HS1:=hid (And.intro hs1 hz1)
   refine hK2.out _ _ (show But (fun q => q = X0+1 ∨ q = X0+2) wz _ from ((But.refl (fun q => q = X0+1 ∨ q = X0+2) wz).drew.below b115)) (fun hHeld2 => ?_)
   clear hK2 K2
   try simp only [Act.put,List.getElem_toArray,List.getElem_cons_zero,List.getElem_cons_succ,List.setIfInBounds_toArray,List.set_cons_zero,List.set_cons_succ]
   refine wpAnyH_ready (rs:=[5]) (by kernel_rfl) (by simp) ?_
   refine AllReadyH.cons (i:=5) rfl (fun K2 hK2 => ?_) AllReadyH.nil
   go_simp
   go_at_call 57
   refine (HSL.out w115 (HPz.out.below (show Gr wz w115 from (by repeat (first | exact Gr.refl _ | (refine Gr.step ?_ (by assumption)) | (refine Gr.alloc ?_ _) | (refine Gr.drew ?_))))).pre).mono ?_
   rintro ev w116 ⟨rfl,b116⟩
   try go_wp2_with fail
   refine hK2.out _ _ (show But (fun q => q = X0+1 ∨ q = X0+2) wz _ from (((But.refl (fun q => q = X0+1 ∨ q = X0+2) wz).drew.below b115).below b116)) (fun hHeld2 => ?_)
   clear hK2 K2
   try simp only [Act.put,List.getElem_toArray,List.getElem_cons_zero,List.getElem_cons_succ,List.setIfInBounds_toArray,List.set_cons_zero,List.set_cons_succ]
   refine wpAnyH_ready (rs:=[8]) (by kernel_rfl) (by simp) ?_
   refine AllReadyH.cons (i:=8) rfl (fun K2 hK2 => ?_) AllReadyH.nil
   go_simp
   go_at_call 57
   refine (HSR.out w116 (HPz.out.below (show Gr wz w116 from (by repeat (first | exact Gr.refl _ | (refine Gr.step ?_ (by assumption)) | (refine Gr.alloc ?_ _) | (refine Gr.drew ?_))))).pre).mono ?_
   rintro ev w117 ⟨rfl,b117⟩
   try go_wp2_with fail
   refine hK2.out _ _ (show But (fun q => q = X0+1 ∨ q = X0+2) wz _ from ((((But.refl (fun q => q = X0+1 ∨ q = X0+2) wz).drew.below b115).below b116).below b117)) (fun hHeld2 => ?_)
   clear hK2 K2
   try simp only [Act.put,List.getElem_toArray,List.getElem_cons_zero,List.getElem_cons_succ,List.setIfInBounds_toArray,List.set_cons_zero,List.set_cons_succ]
   refine wpAnyH_ready (rs:=[9]) (by kernel_rfl) (by simp) ?_
   refine AllReadyH.cons (i:=9) rfl (fun K2 hK2 => ?_) AllReadyH.nil
   go_simp
   go_at_call 53
   refine (HT2.out w117).mono ?_
   rintro ev w118 ⟨⟨s2,rfl,hs2,hz2⟩,b118⟩
   try go_wp2_with fail
   have HS2:=hid (And.intro hs2 hz2)
   refine hK2.out _ _ (show But (fun q => q = X0+1 ∨ q = X0+2) wz _ from (((((But.refl (fun q => q = X0+1 ∨ q = X0+2) wz).drew.below b115).below b116).below b117).below b118)) (fun hHeld2 => ?_)
   clear hK2 K2
   try simp only [Act.put,List.getElem_toArray,List.getElem_cons_zero,List.getElem_cons_succ,List.setIfInBounds_toArray,List.set_cons_zero,List.set_cons_succ]
   refine wpAnyH_ready (rs:=[10]) (by kernel_rfl) (by simp) ?_
   refine AllReadyH.cons (i:=10) rfl (fun K2 hK2 => ?_) AllReadyH.nil
   rw [if_pos (by rfl)]
   refine wp_store_one 9 _ _ rfl (X0+1) (.string s1) rfl (by rfl) rfl 9 _ (((Below.block (show Gr wz w118 from (Gr.step (Gr.step (Gr.step (Gr.step (Gr.drew (Gr.refl wz)) b115) b116) b117) b118)) _ LAB.out.1).trans RA0.out)) (by kernel_rfl) ?_
   refine hK2.out _ _ (show But (fun q => q = X0+1 ∨ q = X0+2) wz _ from ((((((But.refl (fun q => q = X0+1 ∨ q = X0+2) wz).drew.below b115).below b116).below b117).below b118).setRow (X0+1) #[(.string s1)] (fun _ => Or.inl rfl))) (fun hHeld2 => ?_)
   clear hK2 K2
   try simp only [Act.put,List.getElem_toArray,List.getElem_cons_zero,List.getElem_cons_succ]
   refine wpAnyH_ready (rs:=[11]) (by kernel_rfl) (by simp) ?_
   refine AllReadyH.cons (i:=11) rfl (fun K2 hK2 => ?_) AllReadyH.nil
   rw [if_pos (by rfl)]
   refine wp_store_one 9 _ _ rfl (X0+2) (.string s2) rfl (by rfl) rfl 9 _ ((setRow_other _ _ _ _ (by omega)).trans (((Below.block (show Gr wz w118 from (Gr.step (Gr.step (Gr.step (Gr.step (Gr.drew (Gr.refl wz)) b115) b116) b117) b118)) _ LAB.out.2).trans RB0.out))) (by kernel_rfl) ?_
   refine hK2.out _ _ (show But (fun q => q = X0+1 ∨ q = X0+2) wz _ from (((((((But.refl (fun q => q = X0+1 ∨ q = X0+2) wz).drew.below b115).below b116).below b117).below b118).setRow (X0+1) #[(.string s1)] (fun _ => Or.inl rfl)).setRow (X0+2) #[(.string s2)] (fun _ => Or.inr rfl))) (fun hHeld2 => ?_)
   clear hK2 K2
   try simp only [Act.put,List.getElem_toArray,List.getElem_cons_zero,List.getElem_cons_succ]
   refine wpAnyH_done (by kernel_rfl) ?_ _
   have RA:Hid (((w118.setRow (X0+1) #[(.string s1)]).setRow (X0+2) #[(.string s2)]).heap[X0+1]? = some (.cells #[.string s1] 9 (0,0))):=hid ((setRow_other _ _ _ _ (by omega)).trans (setRow_heap w118 _ _ _ _ _ ((Below.block (show Gr wz w118 from (Gr.step (Gr.step (Gr.step (Gr.step (Gr.drew (Gr.refl wz)) b115) b116) b117) b118)) _ LAB.out.1).trans RA0.out)))
   have RB:Hid (((w118.setRow (X0+1) #[(.string s1)]).setRow (X0+2) #[(.string s2)]).heap[X0+2]? = some (.cells #[.string s2] 9 (0,0))):=hid (setRow_heap _ _ _ _ _ _ ((setRow_other w118 _ _ _ (by omega)).trans ((Below.block (show Gr wz w118 from (Gr.step (Gr.step (Gr.step (Gr.step (Gr.drew (Gr.refl wz)) b115) b116) b117) b118)) _ LAB.out.2).trans RB0.out)))
   have HBK:Hid (But (fun q => q = X0+1 ∨ q = X0+2) wz ((w118.setRow (X0+1) #[(.string s1)]).setRow (X0+2) #[(.string s2)])):=hid hHeld2
   obtain ⟨wk,hwk⟩:∃ z,((w118.setRow (X0+1) #[(.string s1)]).setRow (X0+2) #[(.string s2)]) = z:=⟨_,rfl⟩
   rw [hwk] at RA RB HBK ⊢
   clear hwk hHeld hHeld2
   have HFB:Hid (But (fun q => q = X0+1 ∨ q = X0+2) w wk):=hid ((But.new HBLz.out).trans HBK.out)
   have HPk:=hid (HPz.out.but HBK.out ⟨_,RA.out⟩ ⟨_,RB.out⟩)
   have qa:wk.cell? ⟨X0+1,0,none⟩ = some (.string s1):=by rw [cell_of_row wk (X0+1) 0 _ 9 (0,0) RA.out];rfl
   have qb:wk.cell? ⟨X0+2,0,none⟩ = some (.string s2):=by rw [cell_of_row wk (X0+2) 0 _ 9 (0,0) RB.out];rfl
   have q5:wk.cell? ⟨X0+5,0,none⟩ = some (.func (.func 59) #[] #[.pointer (some ⟨X0,0,none⟩),.pointer (some ⟨X0+4,0,none⟩),.pointer (some ⟨X0+1,0,none⟩),.pointer (some ⟨X0+2,0,none⟩),.pointer (some ⟨X0+3,0,none⟩),.pointer (some ⟨X0+5,0,none⟩)]):=by rw [cell_of_row wk (X0+5) 0 _ 113 (0,0) HPk.out.pw];rfl
   obtain ⟨c1,c2,c3,c4,c5⟩:=KE.out wk HBK.out
   by_cases hq:s1 = s2
   ·have hpx:p ++ q = x ++ y:=by
     have:=congrArg bOf hq
     rw [HS1.out.1,HS2.out.1] at this
     simpa using this
    have hO:=hout.out
    rw [if_pos hpx] at hO
    have hO:=hid hO
    clear hpx hout
    go_wp2_with fail
    refine (IHL.out wk HPk.out).mono ?_
    rintro ev w5 ⟨s,t,rfl,ra,rb,hr,hB5⟩
    have HP5:=hid (HPk.out.but hB5 ⟨_,ra⟩ ⟨_,rb⟩)
    have HB5:=hid hB5
    have RR5:=hid (And.intro ra (And.intro rb hr))
    have q6:w5.cell? ⟨X0+5,0,none⟩ = some (.func (.func 59) #[] #[.pointer (some ⟨X0,0,none⟩),.pointer (some ⟨X0+4,0,none⟩),.pointer (some ⟨X0+1,0,none⟩),.pointer (some ⟨X0+2,0,none⟩),.pointer (some ⟨X0+3,0,none⟩),.pointer (some ⟨X0+5,0,none⟩)]):=by rw [cell_of_row w5 (X0+5) 0 _ 113 (0,0) HP5.out.pw];rfl
    obtain ⟨d1,d2,d3,d4,d5⟩:=KE.out w5 (HBK.out.trans HB5.out)
    clear ra rb hr hB5 qa qb q5 c1 c2 c3 c4 c5 hq IHL
    cases rl with
    | some r =>
     simp only [Option.isSome_some]
     simp only at hO
     go_wp2
     go_ret
     exact ⟨s,t,by rw [← hO.out];rfl,RR5.out.1,RR5.out.2.1,(fun x hx => by rw [← hO.out] at hx;exact RR5.out.2.2 x hx),HFB.out.trans HB5.out⟩
    | none =>
     simp only [Option.isSome_none]
     simp only at hO
     go_wp2_with fail
     refine (IHR.out w5 HP5.out).mono ?_
     rintro ev w6 ⟨s',t',rfl,ra,rb,hr,hB6⟩
     have HB6:=hid hB6
     have RR6:=hid (And.intro ra (And.intro rb hr))
     clear ra rb hr hB6 q6 d1 d2 d3 d4 d5
     go_wp2
     go_ret
     exact ⟨s',t',by rw [← hO.out];rfl,RR6.out.1,RR6.out.2.1,(fun x hx => by rw [← hO.out] at hx;exact RR6.out.2.2 x hx),(HFB.out.trans HB5.out).trans HB6.out⟩
   ·have hpx:¬ p ++ q = x ++ y:=fun h => hq (bOf_inj (by rw [HS1.out.1,HS2.out.1,h]))
    have hO:=hout.out
    rw [if_neg hpx] at hO
    have hO:=hid hO
    clear hpx hout
    have hq1:¬ s1.toList = s2.toList:=fun h => by rw [Go.ByteArray.toList_eq,Go.ByteArray.toList_eq] at h;exact hq (ByteArray.ext (Array.toList_inj.1 h))
    have hq2:decide (s1.toList = s2.toList) = false:=by simp [hq1]
    have hq3:(s1.toList == s2.toList) = false:=by simp [hq1]
    have hq4:decide (s1 = s2) = false:=by simp [hq]
    go_wp2
    go_ret
    exact ⟨s1,s2,by rw [← hO.out];first | rfl | simp [hq1],RA.out,RB.out,(fun x hx => by rw [← hO.out] at hx;cases hx;exact ⟨HS1.out.1,HS2.out.1⟩),HFB.out⟩
  exact AllReadyH.nil
 refine AllReadyH.cons (i:=9) rfl (fun K2 hK2 => ?_) ?more85
 ·skip
  go_simp
  obtain ⟨wa119,hwa119⟩:∃ x,(w3.alloc (.cells (List.replicate 32 (Value.int .u8 0)).toArray 39)).drew = x:=⟨_,rfl⟩
  have bwa119:Below w3.heap.size w3 wa119:=by rw [← hwa119];exact ((Below.refl _ w3).alloc (Nat.le_refl _) _).drew
  have Rwa119:Hid (wa119.heap[w3.heap.size]? = some (.cells (List.replicate 32 (Value.int .u8 0)).toArray 39 (0,0))):=hid (by rw [← hwa119];exact heap_at w3 _ _ rfl)
  simp only [List.replicate] at hwa119
  rw [hwa119]
  clear hwa119
  refine hK2.out _ _ (show Gr w3 wa119 from (Gr.step (Gr.refl w3) bwa119)) (fun hHeld2 => ?_)
  clear hK2 K2
  try simp only [pu]
  refine wpAnyH_ready (rs:=[5]) (by kernel_rfl) (by simp) ?_
  refine AllReadyH.cons (i:=5) rfl (fun K2 hK2 => ?_) AllReadyH.nil
  go_simp
  go_at_call 49
  refine (HTL.out wa119 (HP3.out.below (show Gr w3 wa119 from (by repeat (first | exact Gr.refl _ | (refine Gr.step ?_ (by assumption)) | (refine Gr.alloc ?_ _) | (refine Gr.drew ?_)))))).mono ?_
  rintro ev w120 ⟨rfl,b120⟩
  try go_wp2_with fail
  refine hK2.out _ _ (show Gr w3 _ from (by repeat (first | exact Gr.refl _ | (refine Gr.step ?_ (by assumption)) | (refine Gr.alloc ?_ _) | (refine Gr.drew ?_)))) (fun hHeld2 => ?_)
  clear hK2 K2
  try simp only [pu]
  have Rbw120:Hid (w120.heap[w3.heap.size]? = some (.cells (List.replicate 32 (Value.int .u8 0)).toArray 39 (0,0))):=hid ((b120.block _ (Array.getElem?_eq_some_iff.1 Rwa119.out).1).trans Rwa119.out)
  refine tk (i:=6) (v:=?v86) rfl ?y86 ?r86
  case y86 => (intro w hSw;(try dsimp only at hSw);go_simp;(try with_reducible rfl))
  try simp only [pu]
  refine tk (i:=7) (v:=?v87) rfl ?y87 ?r87
  case y87 => (intro w hSw;(try dsimp only at hSw);go_simp;(try with_reducible rfl))
  try simp only [pu]
  refine tk (i:=8) (v:=?v88) rfl ?y88 ?r88
  case y88 => (intro w hSw;(try dsimp only at hSw);go_simp;(try with_reducible rfl))
  try simp only [pu]
  refine wpAnyH_ready (rs:=[10]) (by kernel_rfl) (by simp) ?_
  refine AllReadyH.cons (i:=10) rfl (fun K2 hK2 => ?_) AllReadyH.nil
  rw [if_pos (by rfl)]
  refine wp_store_row 39 _ _ rfl w3.heap.size vp rfl rfl 39 _ Rbw120.out Ivp.out (by rw [Zvp.out];simp) Ovp.out ?_
  refine hK2.out _ _ (show Gr w3 _ from (below_setRow (show Gr w3 w120 from (Gr.step (Gr.step (Gr.refl w3) bwa119) b120)) w3.heap.size vp (Nat.le_refl _))) (fun hHeld2 => ?_)
  clear hK2 K2
  try simp only [pu]
  refine tk (i:=11) (v:=?v89) rfl ?y89 ?r89
  case y89 => (intro w hSw;(try dsimp only at hSw);go_simp;(try with_reducible rfl))
  try simp only [pu]
  refine wpAnyH_done (by kernel_rfl) ?_ _
  go_wp2_with fail
  have B9:Hid (Below w3.heap.size w3 (w120.setRow w3.heap.size vp)):=hid (show Gr w3 (w120.setRow w3.heap.size vp) from (below_setRow (show Gr w3 w120 from (Gr.step (Gr.step (Gr.refl w3) bwa119) b120)) w3.heap.size vp (Nat.le_refl _)))
  have R9:Hid ((w120.setRow w3.heap.size vp).heap[w3.heap.size]? = some (.cells vp 39 (0,0))):=hid (setRow_heap _ _ _ _ _ _ Rbw120.out)
  have HN9:Hid (X0+5 < w3.heap.size):=hid (by have:=HXL.out;have:=Nat.le_refl w3.heap.size;omega)
  obtain ⟨r9,hr9⟩:∃ z,w3.heap.size = z:=⟨_,rfl⟩
  obtain ⟨wy,hwy⟩:∃ z,(w120.setRow w3.heap.size vp) = z:=⟨_,rfl⟩
  rw [hwy] at B9 R9 ⊢
  rw [hr9] at R9 HN9 ⊢
  clear hwy hr9 hHeld hHeld2
  refine wp_region_held_drew (S:=Gr wy) (by kernel_rfl) (Gr.refl wy).drew (fun hHeld => ?_)
  refine tk (i:=0) (v:=?v90) rfl ?y90 ?r90
  case y90 => (intro w hSw;(try dsimp only at hSw);obtain ⟨z1,z2,z3,z4,z5,z6⟩:=K9.out w (Gr.step B9.out hSw);go_simp;(try with_reducible rfl))
  try simp only [pu]
  refine tk (i:=1) (v:=?v91) rfl ?y91 ?r91
  case y91 => (intro w hSw;(try dsimp only at hSw);go_simp;(try with_reducible rfl))
  try simp only [pu]
  refine tk (i:=2) (v:=?v92) rfl ?y92 ?r92
  case y92 => (intro w hSw;(try dsimp only at hSw);go_simp;(try with_reducible rfl))
  try simp only [pu]
  refine tk (i:=3) (v:=?v93) rfl ?y93 ?r93
  case y93 => (intro w hSw;(try dsimp only at hSw);obtain ⟨z1,z2,z3,z4,z5,z6⟩:=K9.out w (Gr.step B9.out hSw);go_simp;(try with_reducible rfl))
  try simp only [pu]
  refine tk (i:=4) (v:=?v94) rfl ?y94 ?r94
  case y94 => (intro w hSw;(try dsimp only at hSw);obtain ⟨z1,z2,z3,z4,z5,z6⟩:=K9.out w (Gr.step B9.out hSw);go_simp;(try with_reducible rfl))
  try simp only [pu]
  refine wpAnyH_ready (rs:=[5,9]) (by kernel_rfl) (by simp) ?_
  refine AllReadyH.cons (i:=5) rfl (fun K2 hK2 => ?_) ?more95
  ·skip
   go_simp
   go_at_call 49
   refine (HTR.out wy.drew (HP3.out.below (show Gr w3 wy.drew from Gr.step B9.out (show Gr wy wy.drew from (by repeat (first | exact Gr.refl _ | (refine Gr.step ?_ (by assumption)) | (refine Gr.alloc ?_ _) | (refine Gr.drew ?_))))))).mono ?_
   rintro ev w121 ⟨rfl,b121⟩
   try go_wp2_with fail
   refine hK2.out _ _ (show Gr wy _ from (by repeat (first | exact Gr.refl _ | (refine Gr.step ?_ (by assumption)) | (refine Gr.alloc ?_ _) | (refine Gr.drew ?_)))) (fun hHeld2 => ?_)
   clear hK2 K2
   try simp only [pu]
   refine tk (i:=6) (v:=?v96) rfl ?y96 ?r96
   case y96 => (intro w hSw;(try dsimp only at hSw);go_simp;(try with_reducible rfl))
   try simp only [pu]
   refine tk (i:=7) (v:=?v97) rfl ?y97 ?r97
   case y97 => (intro w hSw;(try dsimp only at hSw);go_simp;(try with_reducible rfl))
   try simp only [pu]
   refine tk (i:=8) (v:=?v98) rfl ?y98 ?r98
   case y98 => (intro w hSw;(try dsimp only at hSw);go_simp;(try with_reducible rfl))
   try simp only [pu]
   refine wpAnyH_ready (rs:=[9]) (by kernel_rfl) (by simp) ?_
   refine AllReadyH.cons (i:=9) rfl (fun K2 hK2 => ?_) AllReadyH.nil
   go_simp
   obtain ⟨wa122,hwa122⟩:∃ x,(w121.alloc (.cells (List.replicate 32 (Value.int .u8 0)).toArray 39)) = x:=⟨_,rfl⟩
   have bwa122:Below w121.heap.size w121 wa122:=by rw [← hwa122];exact ((Below.refl _ w121).alloc (Nat.le_refl _) _)
   have Rwa122:Hid (wa122.heap[w121.heap.size]? = some (.cells (List.replicate 32 (Value.int .u8 0)).toArray 39 (0,0))):=hid (by rw [← hwa122];exact heap_at w121 _ _ rfl)
   simp only [List.replicate] at hwa122
   rw [hwa122]
   clear hwa122
   refine hK2.out _ _ (show Gr wy wa122 from (Gr.step (Gr.step (Gr.drew (Gr.refl wy)) b121) bwa122)) (fun hHeld2 => ?_)
   clear hK2 K2
   try simp only [pu]
   refine wpAnyH_ready (rs:=[10]) (by kernel_rfl) (by simp) ?_
   refine AllReadyH.cons (i:=10) rfl (fun K2 hK2 => ?_) AllReadyH.nil
   rw [if_pos (by rfl)]
   refine wp_store_row 39 _ _ rfl w121.heap.size vq rfl rfl 39 _ Rwa122.out Ivq.out (by rw [Zvq.out];simp) Ovq.out ?_
   refine hK2.out _ _ (show Gr wy _ from (below_setRow (show Gr wy wa122 from (Gr.step (Gr.step (Gr.drew (Gr.refl wy)) b121) bwa122)) w121.heap.size vq (Below.size (show Gr wy w121 from (Gr.step (Gr.drew (Gr.refl wy)) b121))))) (fun hHeld2 => ?_)
   clear hK2 K2
   try simp only [pu]
   refine tk (i:=11) (v:=?v99) rfl ?y99 ?r99
   case y99 => (intro w hSw;(try dsimp only at hSw);go_simp;(try with_reducible rfl))
   try simp only [pu]
   refine wpAnyH_done (by kernel_rfl) ?_ _
   go_wp2_with fail
   have B10:Hid (Below wy.heap.size wy (wa122.setRow w121.heap.size vq)):=hid (show Gr wy (wa122.setRow w121.heap.size vq) from (below_setRow (show Gr wy wa122 from (Gr.step (Gr.step (Gr.drew (Gr.refl wy)) b121) bwa122)) w121.heap.size vq (Below.size (show Gr wy w121 from (Gr.step (Gr.drew (Gr.refl wy)) b121)))))
   have R10:Hid ((wa122.setRow w121.heap.size vq).heap[w121.heap.size]? = some (.cells vq 39 (0,0))):=hid (setRow_heap _ _ _ _ _ _ Rwa122.out)
   have HN10:Hid (X0+5 < w121.heap.size):=hid (by have:=HN9.out;have:=(Array.getElem?_eq_some_iff.1 R9.out).1;have:=Below.size (show Gr wy w121 from (Gr.step (Gr.drew (Gr.refl wy)) b121));omega)
   obtain ⟨r10,hr10⟩:∃ z,w121.heap.size = z:=⟨_,rfl⟩
   obtain ⟨wz,hwz⟩:∃ z,(wa122.setRow w121.heap.size vq) = z:=⟨_,rfl⟩
   rw [hwz] at B10 R10 ⊢
   rw [hr10] at R10 HN10 ⊢
   clear hwz hr10 hHeld hHeld2
   have R9z:Hid (wz.heap[r9]? = some (.cells vp 39 (0,0))):=hid ((B10.out.block _ (Array.getElem?_eq_some_iff.1 R9.out).1).trans R9.out)
   have N9:Hid (X0+5 < r9 ∧ X0+5 < r10):=hid ⟨HN9.out,HN10.out⟩
   have B3z:Hid (Below w3.heap.size w3 wz):=hid (B9.out.trans (B10.out.mono B9.out.size))
   have HPz:=hid (HP3.out.below B3z.out)
   have HBLz:Hid (Below w.heap.size w wz):=hid (HBL.out.trans (B3z.out.mono HBL.out.size))
   obtain ⟨t0,RA0⟩:=HPz.out.fa
   obtain ⟨u0,RB0⟩:=HPz.out.fb
   have RA0:=hid RA0
   have RB0:=hid RB0
   have LAB:Hid (X0+1 < wz.heap.size ∧ X0+2 < wz.heap.size):=hid ⟨(Array.getElem?_eq_some_iff.1 RA0.out).1,(Array.getElem?_eq_some_iff.1 RB0.out).1⟩
   have KE:Hid (∀ w',But (fun q => q = X0+1 ∨ q = X0+2) wz w' → w'.cell? ⟨X0+3,0,none⟩ = some (.func (.func 57) #[] #[.pointer (some ⟨X0,0,none⟩),.pointer (some ⟨X0+4,0,none⟩),.pointer (some ⟨X0+3,0,none⟩)]) ∧ w'.cell? ⟨xl,0,none⟩ = some (.int .u64 b) ∧ w'.cell? ⟨xl,1,none⟩ = some (.int .u64 (b+k)) ∧ w'.cell? ⟨xl+1,0,none⟩ = some (.int .u64 (b+k)) ∧ w'.cell? ⟨xl+1,1,none⟩ = some (.int .u64 e)):=hid (fun w' q => by
    obtain ⟨c1,c2,c3,c4,c5,c6⟩:=K9.out wz B3z.out
    have n1:=HXL.out.1
    exact ⟨q.cell (by rw [cell_of_row wz (X0+3) 0 _ 108 (0,0) HPz.out.pre.ps];rfl) (by show ¬ (X0+3 = X0+1 ∨ X0+3 = X0+2);omega),q.cell c3 (by show ¬ (xl = X0+1 ∨ xl = X0+2);omega),q.cell c4 (by show ¬ (xl = X0+1 ∨ xl = X0+2);omega),q.cell c5 (by show ¬ (xl+1 = X0+1 ∨ xl+1 = X0+2);omega),q.cell c6 (by show ¬ (xl+1 = X0+1 ∨ xl+1 = X0+2);omega)⟩)
   refine wp_region_held_drew (S:=But (fun q => q = X0+1 ∨ q = X0+2) wz) (by kernel_rfl) (But.refl (fun q => q = X0+1 ∨ q = X0+2) wz).drew (fun hHeld => ?_)
   refine tw (i:=0) rfl (yieldsIf_load_row (by rfl) 39 _ (by rfl) r9 (by rfl) 39 vp (0,0) _ (fun w h => (But.same h _ (Array.getElem?_eq_some_iff.1 R9z.out).1 (by have:=N9.out.1;omega)).trans R9z.out) Tryz.underlying39 rfl Ivp.out) ?_
   try simp only [pu]
   refine tw (i:=1) rfl (yieldsIf_load_row (by rfl) 39 _ (by rfl) r10 (by rfl) 39 vq (0,0) _ (fun w h => (But.same h _ (Array.getElem?_eq_some_iff.1 R10.out).1 (by have:=N9.out.2;omega)).trans R10.out) Tryz.underlying39 rfl Ivq.out) ?_
   try simp only [pu]
   refine tk (i:=3) (v:=?v102) rfl ?y102 ?r102
   case y102 => (intro w hSw;(try dsimp only at hSw);obtain ⟨z1,z2,z3,z4,z5⟩:=KE.out w hSw;go_simp;(try with_reducible rfl))
   try simp only [pu]
   refine tk (i:=4) (v:=?v103) rfl ?y103 ?r103
   case y103 => (intro w hSw;(try dsimp only at hSw);obtain ⟨z1,z2,z3,z4,z5⟩:=KE.out w hSw;go_simp;(try with_reducible rfl))
   try simp only [pu]
   refine tk (i:=6) (v:=?v104) rfl ?y104 ?r104
   case y104 => (intro w hSw;(try dsimp only at hSw);obtain ⟨z1,z2,z3,z4,z5⟩:=KE.out w hSw;go_simp;(try with_reducible rfl))
   try simp only [pu]
   refine tk (i:=7) (v:=?v105) rfl ?y105 ?r105
   case y105 => (intro w hSw;(try dsimp only at hSw);obtain ⟨z1,z2,z3,z4,z5⟩:=KE.out w hSw;go_simp;(try with_reducible rfl))
   try simp only [pu]
   refine wpAnyH_ready (rs:=[2]) (by kernel_rfl) (by simp) ?_
   refine AllReadyH.cons (i:=2) rfl (fun K2 hK2 => ?_) AllReadyH.nil
   go_simp
   go_at_call 53
   refine (HT1.out wz.drew).mono ?_
   rintro ev w123 ⟨⟨s1,rfl,hs1,hz1⟩,b123⟩
   try go_wp2_with fail
   have HS1:=hid (And.intro hs1 hz1)
   refine hK2.out _ _ (show But (fun q => q = X0+1 ∨ q = X0+2) wz _ from ((But.refl (fun q => q = X0+1 ∨ q = X0+2) wz).drew.below b123)) (fun hHeld2 => ?_)
   clear hK2 K2
   try simp only [Act.put,List.getElem_toArray,List.getElem_cons_zero,List.getElem_cons_succ,List.setIfInBounds_toArray,List.set_cons_zero,List.set_cons_succ]
   refine wpAnyH_ready (rs:=[5]) (by kernel_rfl) (by simp) ?_
   refine AllReadyH.cons (i:=5) rfl (fun K2 hK2 => ?_) AllReadyH.nil
   go_simp
   go_at_call 57
   refine (HSL.out w123 (HPz.out.below (show Gr wz w123 from (by repeat (first | exact Gr.refl _ | (refine Gr.step ?_ (by assumption)) | (refine Gr.alloc ?_ _) | (refine Gr.drew ?_))))).pre).mono ?_
   rintro ev w124 ⟨rfl,b124⟩
   try go_wp2_with fail
   refine hK2.out _ _ (show But (fun q => q = X0+1 ∨ q = X0+2) wz _ from (((But.refl (fun q => q = X0+1 ∨ q = X0+2) wz).drew.below b123).below b124)) (fun hHeld2 => ?_)
   clear hK2 K2
   try simp only [Act.put,List.getElem_toArray,List.getElem_cons_zero,List.getElem_cons_succ,List.setIfInBounds_toArray,List.set_cons_zero,List.set_cons_succ]
   refine wpAnyH_ready (rs:=[8]) (by kernel_rfl) (by simp) ?_
   refine AllReadyH.cons (i:=8) rfl (fun K2 hK2 => ?_) AllReadyH.nil
   go_simp
   go_at_call 57
   refine (HSR.out w124 (HPz.out.below (show Gr wz w124 from (by repeat (first | exact Gr.refl _ | (refine Gr.step ?_ (by assumption)) | (refine Gr.alloc ?_ _) | (refine Gr.drew ?_))))).pre).mono ?_
   rintro ev w125 ⟨rfl,b125⟩
   try go_wp2_with fail
   refine hK2.out _ _ (show But (fun q => q = X0+1 ∨ q = X0+2) wz _ from ((((But.refl (fun q => q = X0+1 ∨ q = X0+2) wz).drew.below b123).below b124).below b125)) (fun hHeld2 => ?_)
   clear hK2 K2
   try simp only [Act.put,List.getElem_toArray,List.getElem_cons_zero,List.getElem_cons_succ,List.setIfInBounds_toArray,List.set_cons_zero,List.set_cons_succ]
   refine wpAnyH_ready (rs:=[9]) (by kernel_rfl) (by simp) ?_
   refine AllReadyH.cons (i:=9) rfl (fun K2 hK2 => ?_) AllReadyH.nil
   go_simp
   go_at_call 53
   refine (HT2.out w125).mono ?_
   rintro ev w126 ⟨⟨s2,rfl,hs2,hz2⟩,b126⟩
   try go_wp2_with fail
   have HS2:=hid (And.intro hs2 hz2)
   refine hK2.out _ _ (show But (fun q => q = X0+1 ∨ q = X0+2) wz _ from (((((But.refl (fun q => q = X0+1 ∨ q = X0+2) wz).drew.below b123).below b124).below b125).below b126)) (fun hHeld2 => ?_)
   clear hK2 K2
   try simp only [Act.put,List.getElem_toArray,List.getElem_cons_zero,List.getElem_cons_succ,List.setIfInBounds_toArray,List.set_cons_zero,List.set_cons_succ]
   refine wpAnyH_ready (rs:=[10]) (by kernel_rfl) (by simp) ?_
   refine AllReadyH.cons (i:=10) rfl (fun K2 hK2 => ?_) AllReadyH.nil
   rw [if_pos (by rfl)]
   refine wp_store_one 9 _ _ rfl (X0+1) (.string s1) rfl (by rfl) rfl 9 _ (((Below.block (show Gr wz w126 from (Gr.step (Gr.step (Gr.step (Gr.step (Gr.drew (Gr.refl wz)) b123) b124) b125) b126)) _ LAB.out.1).trans RA0.out)) (by kernel_rfl) ?_
   refine hK2.out _ _ (show But (fun q => q = X0+1 ∨ q = X0+2) wz _ from ((((((But.refl (fun q => q = X0+1 ∨ q = X0+2) wz).drew.below b123).below b124).below b125).below b126).setRow (X0+1) #[(.string s1)] (fun _ => Or.inl rfl))) (fun hHeld2 => ?_)
   clear hK2 K2
   try simp only [Act.put,List.getElem_toArray,List.getElem_cons_zero,List.getElem_cons_succ]
   refine wpAnyH_ready (rs:=[11]) (by kernel_rfl) (by simp) ?_
   refine AllReadyH.cons (i:=11) rfl (fun K2 hK2 => ?_) AllReadyH.nil
   rw [if_pos (by rfl)]
   refine wp_store_one 9 _ _ rfl (X0+2) (.string s2) rfl (by rfl) rfl 9 _ ((setRow_other _ _ _ _ (by omega)).trans (((Below.block (show Gr wz w126 from (Gr.step (Gr.step (Gr.step (Gr.step (Gr.drew (Gr.refl wz)) b123) b124) b125) b126)) _ LAB.out.2).trans RB0.out))) (by kernel_rfl) ?_
   refine hK2.out _ _ (show But (fun q => q = X0+1 ∨ q = X0+2) wz _ from (((((((But.refl (fun q => q = X0+1 ∨ q = X0+2) wz).drew.below b123).below b124).below b125).below b126).setRow (X0+1) #[(.string s1)] (fun _ => Or.inl rfl)).setRow (X0+2) #[(.string s2)] (fun _ => Or.inr rfl))) (fun hHeld2 => ?_)
   clear hK2 K2
   try simp only [Act.put,List.getElem_toArray,List.getElem_cons_zero,List.getElem_cons_succ]
   refine wpAnyH_done (by kernel_rfl) ?_ _
   have RA:Hid (((w126.setRow (X0+1) #[(.string s1)]).setRow (X0+2) #[(.string s2)]).heap[X0+1]? = some (.cells #[.string s1] 9 (0,0))):=hid ((setRow_other _ _ _ _ (by omega)).trans (setRow_heap w126 _ _ _ _ _ ((Below.block (show Gr wz w126 from (Gr.step (Gr.step (Gr.step (Gr.step (Gr.drew (Gr.refl wz)) b123) b124) b125) b126)) _ LAB.out.1).trans RA0.out)))
   have RB:Hid (((w126.setRow (X0+1) #[(.string s1)]).setRow (X0+2) #[(.string s2)]).heap[X0+2]? = some (.cells #[.string s2] 9 (0,0))):=hid (setRow_heap _ _ _ _ _ _ ((setRow_other w126 _ _ _ (by omega)).trans ((Below.block (show Gr wz w126 from (Gr.step (Gr.step (Gr.step (Gr.step (Gr.drew (Gr.refl wz)) b123) b124) b125) b126)) _ LAB.out.2).trans RB0.out)))
   have HBK:Hid (But (fun q => q = X0+1 ∨ q = X0+2) wz ((w126.setRow (X0+1) #[(.string s1)]).setRow (X0+2) #[(.string s2)])):=hid hHeld2
   obtain ⟨wk,hwk⟩:∃ z,((w126.setRow (X0+1) #[(.string s1)]).setRow (X0+2) #[(.string s2)]) = z:=⟨_,rfl⟩
   rw [hwk] at RA RB HBK ⊢
   clear hwk hHeld hHeld2
   have HFB:Hid (But (fun q => q = X0+1 ∨ q = X0+2) w wk):=hid ((But.new HBLz.out).trans HBK.out)
   have HPk:=hid (HPz.out.but HBK.out ⟨_,RA.out⟩ ⟨_,RB.out⟩)
   have qa:wk.cell? ⟨X0+1,0,none⟩ = some (.string s1):=by rw [cell_of_row wk (X0+1) 0 _ 9 (0,0) RA.out];rfl
   have qb:wk.cell? ⟨X0+2,0,none⟩ = some (.string s2):=by rw [cell_of_row wk (X0+2) 0 _ 9 (0,0) RB.out];rfl
   have q5:wk.cell? ⟨X0+5,0,none⟩ = some (.func (.func 59) #[] #[.pointer (some ⟨X0,0,none⟩),.pointer (some ⟨X0+4,0,none⟩),.pointer (some ⟨X0+1,0,none⟩),.pointer (some ⟨X0+2,0,none⟩),.pointer (some ⟨X0+3,0,none⟩),.pointer (some ⟨X0+5,0,none⟩)]):=by rw [cell_of_row wk (X0+5) 0 _ 113 (0,0) HPk.out.pw];rfl
   obtain ⟨c1,c2,c3,c4,c5⟩:=KE.out wk HBK.out
   by_cases hq:s1 = s2
   ·have hpx:p ++ q = x ++ y:=by
     have:=congrArg bOf hq
     rw [HS1.out.1,HS2.out.1] at this
     simpa using this
    have hO:=hout.out
    rw [if_pos hpx] at hO
    have hO:=hid hO
    clear hpx hout
    go_wp2_with fail
    refine (IHL.out wk HPk.out).mono ?_
    rintro ev w5 ⟨s,t,rfl,ra,rb,hr,hB5⟩
    have HP5:=hid (HPk.out.but hB5 ⟨_,ra⟩ ⟨_,rb⟩)
    have HB5:=hid hB5
    have RR5:=hid (And.intro ra (And.intro rb hr))
    have q6:w5.cell? ⟨X0+5,0,none⟩ = some (.func (.func 59) #[] #[.pointer (some ⟨X0,0,none⟩),.pointer (some ⟨X0+4,0,none⟩),.pointer (some ⟨X0+1,0,none⟩),.pointer (some ⟨X0+2,0,none⟩),.pointer (some ⟨X0+3,0,none⟩),.pointer (some ⟨X0+5,0,none⟩)]):=by rw [cell_of_row w5 (X0+5) 0 _ 113 (0,0) HP5.out.pw];rfl
    obtain ⟨d1,d2,d3,d4,d5⟩:=KE.out w5 (HBK.out.trans HB5.out)
    clear ra rb hr hB5 qa qb q5 c1 c2 c3 c4 c5 hq IHL
    cases rl with
    | some r =>
     simp only [Option.isSome_some]
     simp only at hO
     go_wp2
     go_ret
     exact ⟨s,t,by rw [← hO.out];rfl,RR5.out.1,RR5.out.2.1,(fun x hx => by rw [← hO.out] at hx;exact RR5.out.2.2 x hx),HFB.out.trans HB5.out⟩
    | none =>
     simp only [Option.isSome_none]
     simp only at hO
     go_wp2_with fail
     refine (IHR.out w5 HP5.out).mono ?_
     rintro ev w6 ⟨s',t',rfl,ra,rb,hr,hB6⟩
     have HB6:=hid hB6
     have RR6:=hid (And.intro ra (And.intro rb hr))
     clear ra rb hr hB6 q6 d1 d2 d3 d4 d5
     go_wp2
     go_ret
     exact ⟨s',t',by rw [← hO.out];rfl,RR6.out.1,RR6.out.2.1,(fun x hx => by rw [← hO.out] at hx;exact RR6.out.2.2 x hx),(HFB.out.trans HB5.out).trans HB6.out⟩
   ·have hpx:¬ p ++ q = x ++ y:=fun h => hq (bOf_inj (by rw [HS1.out.1,HS2.out.1,h]))
    have hO:=hout.out
    rw [if_neg hpx] at hO
    have hO:=hid hO
    clear hpx hout
    have hq1:¬ s1.toList = s2.toList:=fun h => by rw [Go.ByteArray.toList_eq,Go.ByteArray.toList_eq] at h;exact hq (ByteArray.ext (Array.toList_inj.1 h))
    have hq2:decide (s1.toList = s2.toList) = false:=by simp [hq1]
    have hq3:(s1.toList == s2.toList) = false:=by simp [hq1]
    have hq4:decide (s1 = s2) = false:=by simp [hq]
    go_wp2
    go_ret
    exact ⟨s1,s2,by rw [← hO.out];first | rfl | simp [hq1],RA.out,RB.out,(fun x hx => by rw [← hO.out] at hx;cases hx;exact ⟨HS1.out.1,HS2.out.1⟩),HFB.out⟩
  refine AllReadyH.cons (i:=9) rfl (fun K2 hK2 => ?_) ?more106
  ·skip
   go_simp
   obtain ⟨wa127,hwa127⟩:∃ x,(wy.alloc (.cells (List.replicate 32 (Value.int .u8 0)).toArray 39)).drew = x:=⟨_,rfl⟩
   have bwa127:Below wy.heap.size wy wa127:=by rw [← hwa127];exact ((Below.refl _ wy).alloc (Nat.le_refl _) _).drew
   have Rwa127:Hid (wa127.heap[wy.heap.size]? = some (.cells (List.replicate 32 (Value.int .u8 0)).toArray 39 (0,0))):=hid (by rw [← hwa127];exact heap_at wy _ _ rfl)
   simp only [List.replicate] at hwa127
   rw [hwa127]
   clear hwa127
   refine hK2.out _ _ (show Gr wy wa127 from (Gr.step (Gr.refl wy) bwa127)) (fun hHeld2 => ?_)
   clear hK2 K2
   try simp only [pu]
   refine wpAnyH_ready (rs:=[5]) (by kernel_rfl) (by simp) ?_
   refine AllReadyH.cons (i:=5) rfl (fun K2 hK2 => ?_) AllReadyH.nil
   go_simp
   go_at_call 49
   refine (HTR.out wa127 (HP3.out.below (show Gr w3 wa127 from Gr.step B9.out (show Gr wy wa127 from (by repeat (first | exact Gr.refl _ | (refine Gr.step ?_ (by assumption)) | (refine Gr.alloc ?_ _) | (refine Gr.drew ?_))))))).mono ?_
   rintro ev w128 ⟨rfl,b128⟩
   try go_wp2_with fail
   refine hK2.out _ _ (show Gr wy _ from (by repeat (first | exact Gr.refl _ | (refine Gr.step ?_ (by assumption)) | (refine Gr.alloc ?_ _) | (refine Gr.drew ?_)))) (fun hHeld2 => ?_)
   clear hK2 K2
   try simp only [pu]
   have Rbw128:Hid (w128.heap[wy.heap.size]? = some (.cells (List.replicate 32 (Value.int .u8 0)).toArray 39 (0,0))):=hid ((b128.block _ (Array.getElem?_eq_some_iff.1 Rwa127.out).1).trans Rwa127.out)
   refine tk (i:=6) (v:=?v107) rfl ?y107 ?r107
   case y107 => (intro w hSw;(try dsimp only at hSw);go_simp;(try with_reducible rfl))
   try simp only [pu]
   refine tk (i:=7) (v:=?v108) rfl ?y108 ?r108
   case y108 => (intro w hSw;(try dsimp only at hSw);go_simp;(try with_reducible rfl))
   try simp only [pu]
   refine tk (i:=8) (v:=?v109) rfl ?y109 ?r109
   case y109 => (intro w hSw;(try dsimp only at hSw);go_simp;(try with_reducible rfl))
   try simp only [pu]
   refine wpAnyH_ready (rs:=[10]) (by kernel_rfl) (by simp) ?_
   refine AllReadyH.cons (i:=10) rfl (fun K2 hK2 => ?_) AllReadyH.nil
   rw [if_pos (by rfl)]
   refine wp_store_row 39 _ _ rfl wy.heap.size vq rfl rfl 39 _ Rbw128.out Ivq.out (by rw [Zvq.out];simp) Ovq.out ?_
   refine hK2.out _ _ (show Gr wy _ from (below_setRow (show Gr wy w128 from (Gr.step (Gr.step (Gr.refl wy) bwa127) b128)) wy.heap.size vq (Nat.le_refl _))) (fun hHeld2 => ?_)
   clear hK2 K2
   try simp only [pu]
   refine tk (i:=11) (v:=?v110) rfl ?y110 ?r110
   case y110 => (intro w hSw;(try dsimp only at hSw);go_simp;(try with_reducible rfl))
   try simp only [pu]
   refine wpAnyH_done (by kernel_rfl) ?_ _
   go_wp2_with fail
   have B10:Hid (Below wy.heap.size wy (w128.setRow wy.heap.size vq)):=hid (show Gr wy (w128.setRow wy.heap.size vq) from (below_setRow (show Gr wy w128 from (Gr.step (Gr.step (Gr.refl wy) bwa127) b128)) wy.heap.size vq (Nat.le_refl _)))
   have R10:Hid ((w128.setRow wy.heap.size vq).heap[wy.heap.size]? = some (.cells vq 39 (0,0))):=hid (setRow_heap _ _ _ _ _ _ Rbw128.out)
   have HN10:Hid (X0+5 < wy.heap.size):=hid (by have:=HN9.out;have:=(Array.getElem?_eq_some_iff.1 R9.out).1;have:=Nat.le_refl wy.heap.size;omega)
   obtain ⟨r10,hr10⟩:∃ z,wy.heap.size = z:=⟨_,rfl⟩
   obtain ⟨wz,hwz⟩:∃ z,(w128.setRow wy.heap.size vq) = z:=⟨_,rfl⟩
   rw [hwz] at B10 R10 ⊢
   rw [hr10] at R10 HN10 ⊢
   clear hwz hr10 hHeld hHeld2
   have R9z:Hid (wz.heap[r9]? = some (.cells vp 39 (0,0))):=hid ((B10.out.block _ (Array.getElem?_eq_some_iff.1 R9.out).1).trans R9.out)
   have N9:Hid (X0+5 < r9 ∧ X0+5 < r10):=hid ⟨HN9.out,HN10.out⟩
   have B3z:Hid (Below w3.heap.size w3 wz):=hid (B9.out.trans (B10.out.mono B9.out.size))
   have HPz:=hid (HP3.out.below B3z.out)
   have HBLz:Hid (Below w.heap.size w wz):=hid (HBL.out.trans (B3z.out.mono HBL.out.size))
   obtain ⟨t0,RA0⟩:=HPz.out.fa
   obtain ⟨u0,RB0⟩:=HPz.out.fb
   have RA0:=hid RA0
   have RB0:=hid RB0
   have LAB:Hid (X0+1 < wz.heap.size ∧ X0+2 < wz.heap.size):=hid ⟨(Array.getElem?_eq_some_iff.1 RA0.out).1,(Array.getElem?_eq_some_iff.1 RB0.out).1⟩
   have KE:Hid (∀ w',But (fun q => q = X0+1 ∨ q = X0+2) wz w' → w'.cell? ⟨X0+3,0,none⟩ = some (.func (.func 57) #[] #[.pointer (some ⟨X0,0,none⟩),.pointer (some ⟨X0+4,0,none⟩),.pointer (some ⟨X0+3,0,none⟩)]) ∧ w'.cell? ⟨xl,0,none⟩ = some (.int .u64 b) ∧ w'.cell? ⟨xl,1,none⟩ = some (.int .u64 (b+k)) ∧ w'.cell? ⟨xl+1,0,none⟩ = some (.int .u64 (b+k)) ∧ w'.cell? ⟨xl+1,1,none⟩ = some (.int .u64 e)):=hid (fun w' q => by
    obtain ⟨c1,c2,c3,c4,c5,c6⟩:=K9.out wz B3z.out
    have n1:=HXL.out.1
    exact ⟨q.cell (by rw [cell_of_row wz (X0+3) 0 _ 108 (0,0) HPz.out.pre.ps];rfl) (by show ¬ (X0+3 = X0+1 ∨ X0+3 = X0+2);omega),q.cell c3 (by show ¬ (xl = X0+1 ∨ xl = X0+2);omega),q.cell c4 (by show ¬ (xl = X0+1 ∨ xl = X0+2);omega),q.cell c5 (by show ¬ (xl+1 = X0+1 ∨ xl+1 = X0+2);omega),q.cell c6 (by show ¬ (xl+1 = X0+1 ∨ xl+1 = X0+2);omega)⟩)
   refine wp_region_held_drew (S:=But (fun q => q = X0+1 ∨ q = X0+2) wz) (by kernel_rfl) (But.refl (fun q => q = X0+1 ∨ q = X0+2) wz).drew (fun hHeld => ?_)
   refine tw (i:=0) rfl (yieldsIf_load_row (by rfl) 39 _ (by rfl) r9 (by rfl) 39 vp (0,0) _ (fun w h => (But.same h _ (Array.getElem?_eq_some_iff.1 R9z.out).1 (by have:=N9.out.1;omega)).trans R9z.out) Tryz.underlying39 rfl Ivp.out) ?_
   try simp only [pu]
   refine tw (i:=1) rfl (yieldsIf_load_row (by rfl) 39 _ (by rfl) r10 (by rfl) 39 vq (0,0) _ (fun w h => (But.same h _ (Array.getElem?_eq_some_iff.1 R10.out).1 (by have:=N9.out.2;omega)).trans R10.out) Tryz.underlying39 rfl Ivq.out) ?_
   try simp only [pu]
   refine tk (i:=3) (v:=?v113) rfl ?y113 ?r113
   case y113 => (intro w hSw;(try dsimp only at hSw);obtain ⟨z1,z2,z3,z4,z5⟩:=KE.out w hSw;go_simp;(try with_reducible rfl))
   try simp only [pu]
   refine tk (i:=4) (v:=?v114) rfl ?y114 ?r114
   case y114 => (intro w hSw;(try dsimp only at hSw);obtain ⟨z1,z2,z3,z4,z5⟩:=KE.out w hSw;go_simp;(try with_reducible rfl))
   try simp only [pu]
   refine tk (i:=6) (v:=?v115) rfl ?y115 ?r115
   case y115 => (intro w hSw;(try dsimp only at hSw);obtain ⟨z1,z2,z3,z4,z5⟩:=KE.out w hSw;go_simp;(try with_reducible rfl))
   try simp only [pu]
   refine tk (i:=7) (v:=?v116) rfl ?y116 ?r116
   case y116 => (intro w hSw;(try dsimp only at hSw);obtain ⟨z1,z2,z3,z4,z5⟩:=KE.out w hSw;go_simp;(try with_reducible rfl))
   try simp only [pu]
   refine wpAnyH_ready (rs:=[2]) (by kernel_rfl) (by simp) ?_
   refine AllReadyH.cons (i:=2) rfl (fun K2 hK2 => ?_) AllReadyH.nil
   go_simp
   go_at_call 53
   refine (HT1.out wz.drew).mono ?_
   rintro ev w129 ⟨⟨s1,rfl,hs1,hz1⟩,b129⟩
   try go_wp2_with fail
   have HS1:=hid (And.intro hs1 hz1)
   refine hK2.out _ _ (show But (fun q => q = X0+1 ∨ q = X0+2) wz _ from ((But.refl (fun q => q = X0+1 ∨ q = X0+2) wz).drew.below b129)) (fun hHeld2 => ?_)
   clear hK2 K2
   try simp only [Act.put,List.getElem_toArray,List.getElem_cons_zero,List.getElem_cons_succ,List.setIfInBounds_toArray,List.set_cons_zero,List.set_cons_succ]
   refine wpAnyH_ready (rs:=[5]) (by kernel_rfl) (by simp) ?_
   refine AllReadyH.cons (i:=5) rfl (fun K2 hK2 => ?_) AllReadyH.nil
   go_simp
   go_at_call 57
   refine (HSL.out w129 (HPz.out.below (show Gr wz w129 from (by repeat (first | exact Gr.refl _ | (refine Gr.step ?_ (by assumption)) | (refine Gr.alloc ?_ _) | (refine Gr.drew ?_))))).pre).mono ?_
   rintro ev w130 ⟨rfl,b130⟩
   try go_wp2_with fail
   refine hK2.out _ _ (show But (fun q => q = X0+1 ∨ q = X0+2) wz _ from (((But.refl (fun q => q = X0+1 ∨ q = X0+2) wz).drew.below b129).below b130)) (fun hHeld2 => ?_)
   clear hK2 K2
   try simp only [Act.put,List.getElem_toArray,List.getElem_cons_zero,List.getElem_cons_succ,List.setIfInBounds_toArray,List.set_cons_zero,List.set_cons_succ]
   refine wpAnyH_ready (rs:=[8]) (by kernel_rfl) (by simp) ?_
   refine AllReadyH.cons (i:=8) rfl (fun K2 hK2 => ?_) AllReadyH.nil
   go_simp
   go_at_call 57
   refine (HSR.out w130 (HPz.out.below (show Gr wz w130 from (by repeat (first | exact Gr.refl _ | (refine Gr.step ?_ (by assumption)) | (refine Gr.alloc ?_ _) | (refine Gr.drew ?_))))).pre).mono ?_
   rintro ev w131 ⟨rfl,b131⟩
   try go_wp2_with fail
   refine hK2.out _ _ (show But (fun q => q = X0+1 ∨ q = X0+2) wz _ from ((((But.refl (fun q => q = X0+1 ∨ q = X0+2) wz).drew.below b129).below b130).below b131)) (fun hHeld2 => ?_)
   clear hK2 K2
   try simp only [Act.put,List.getElem_toArray,List.getElem_cons_zero,List.getElem_cons_succ,List.setIfInBounds_toArray,List.set_cons_zero,List.set_cons_succ]
   refine wpAnyH_ready (rs:=[9]) (by kernel_rfl) (by simp) ?_
   refine AllReadyH.cons (i:=9) rfl (fun K2 hK2 => ?_) AllReadyH.nil
   go_simp
   go_at_call 53
   refine (HT2.out w131).mono ?_
   rintro ev w132 ⟨⟨s2,rfl,hs2,hz2⟩,b132⟩
   try go_wp2_with fail
   have HS2:=hid (And.intro hs2 hz2)
   refine hK2.out _ _ (show But (fun q => q = X0+1 ∨ q = X0+2) wz _ from (((((But.refl (fun q => q = X0+1 ∨ q = X0+2) wz).drew.below b129).below b130).below b131).below b132)) (fun hHeld2 => ?_)
   clear hK2 K2
   try simp only [Act.put,List.getElem_toArray,List.getElem_cons_zero,List.getElem_cons_succ,List.setIfInBounds_toArray,List.set_cons_zero,List.set_cons_succ]
   refine wpAnyH_ready (rs:=[10]) (by kernel_rfl) (by simp) ?_
   refine AllReadyH.cons (i:=10) rfl (fun K2 hK2 => ?_) AllReadyH.nil
   rw [if_pos (by rfl)]
   refine wp_store_one 9 _ _ rfl (X0+1) (.string s1) rfl (by rfl) rfl 9 _ (((Below.block (show Gr wz w132 from (Gr.step (Gr.step (Gr.step (Gr.step (Gr.drew (Gr.refl wz)) b129) b130) b131) b132)) _ LAB.out.1).trans RA0.out)) (by kernel_rfl) ?_
   refine hK2.out _ _ (show But (fun q => q = X0+1 ∨ q = X0+2) wz _ from ((((((But.refl (fun q => q = X0+1 ∨ q = X0+2) wz).drew.below b129).below b130).below b131).below b132).setRow (X0+1) #[(.string s1)] (fun _ => Or.inl rfl))) (fun hHeld2 => ?_)
   clear hK2 K2
   try simp only [Act.put,List.getElem_toArray,List.getElem_cons_zero,List.getElem_cons_succ]
   refine wpAnyH_ready (rs:=[11]) (by kernel_rfl) (by simp) ?_
   refine AllReadyH.cons (i:=11) rfl (fun K2 hK2 => ?_) AllReadyH.nil
   rw [if_pos (by rfl)]
   refine wp_store_one 9 _ _ rfl (X0+2) (.string s2) rfl (by rfl) rfl 9 _ ((setRow_other _ _ _ _ (by omega)).trans (((Below.block (show Gr wz w132 from (Gr.step (Gr.step (Gr.step (Gr.step (Gr.drew (Gr.refl wz)) b129) b130) b131) b132)) _ LAB.out.2).trans RB0.out))) (by kernel_rfl) ?_
   refine hK2.out _ _ (show But (fun q => q = X0+1 ∨ q = X0+2) wz _ from (((((((But.refl (fun q => q = X0+1 ∨ q = X0+2) wz).drew.below b129).below b130).below b131).below b132).setRow (X0+1) #[(.string s1)] (fun _ => Or.inl rfl)).setRow (X0+2) #[(.string s2)] (fun _ => Or.inr rfl))) (fun hHeld2 => ?_)
   clear hK2 K2
   try simp only [Act.put,List.getElem_toArray,List.getElem_cons_zero,List.getElem_cons_succ]
   refine wpAnyH_done (by kernel_rfl) ?_ _
   have RA:Hid (((w132.setRow (X0+1) #[(.string s1)]).setRow (X0+2) #[(.string s2)]).heap[X0+1]? = some (.cells #[.string s1] 9 (0,0))):=hid ((setRow_other _ _ _ _ (by omega)).trans (setRow_heap w132 _ _ _ _ _ ((Below.block (show Gr wz w132 from (Gr.step (Gr.step (Gr.step (Gr.step (Gr.drew (Gr.refl wz)) b129) b130) b131) b132)) _ LAB.out.1).trans RA0.out)))
   have RB:Hid (((w132.setRow (X0+1) #[(.string s1)]).setRow (X0+2) #[(.string s2)]).heap[X0+2]? = some (.cells #[.string s2] 9 (0,0))):=hid (setRow_heap _ _ _ _ _ _ ((setRow_other w132 _ _ _ (by omega)).trans ((Below.block (show Gr wz w132 from (Gr.step (Gr.step (Gr.step (Gr.step (Gr.drew (Gr.refl wz)) b129) b130) b131) b132)) _ LAB.out.2).trans RB0.out)))
   have HBK:Hid (But (fun q => q = X0+1 ∨ q = X0+2) wz ((w132.setRow (X0+1) #[(.string s1)]).setRow (X0+2) #[(.string s2)])):=hid hHeld2
   obtain ⟨wk,hwk⟩:∃ z,((w132.setRow (X0+1) #[(.string s1)]).setRow (X0+2) #[(.string s2)]) = z:=⟨_,rfl⟩
   rw [hwk] at RA RB HBK ⊢
   clear hwk hHeld hHeld2
   have HFB:Hid (But (fun q => q = X0+1 ∨ q = X0+2) w wk):=hid ((But.new HBLz.out).trans HBK.out)
   have HPk:=hid (HPz.out.but HBK.out ⟨_,RA.out⟩ ⟨_,RB.out⟩)
   have qa:wk.cell? ⟨X0+1,0,none⟩ = some (.string s1):=by rw [cell_of_row wk (X0+1) 0 _ 9 (0,0) RA.out];rfl
   have qb:wk.cell? ⟨X0+2,0,none⟩ = some (.string s2):=by rw [cell_of_row wk (X0+2) 0 _ 9 (0,0) RB.out];rfl
   have q5:wk.cell? ⟨X0+5,0,none⟩ = some (.func (.func 59) #[] #[.pointer (some ⟨X0,0,none⟩),.pointer (some ⟨X0+4,0,none⟩),.pointer (some ⟨X0+1,0,none⟩),.pointer (some ⟨X0+2,0,none⟩),.pointer (some ⟨X0+3,0,none⟩),.pointer (some ⟨X0+5,0,none⟩)]):=by rw [cell_of_row wk (X0+5) 0 _ 113 (0,0) HPk.out.pw];rfl
   obtain ⟨c1,c2,c3,c4,c5⟩:=KE.out wk HBK.out
   by_cases hq:s1 = s2
   ·have hpx:p ++ q = x ++ y:=by
     have:=congrArg bOf hq
     rw [HS1.out.1,HS2.out.1] at this
     simpa using this
    have hO:=hout.out
    rw [if_pos hpx] at hO
    have hO:=hid hO
    clear hpx hout
    go_wp2_with fail
    refine (IHL.out wk HPk.out).mono ?_
    rintro ev w5 ⟨s,t,rfl,ra,rb,hr,hB5⟩
    have HP5:=hid (HPk.out.but hB5 ⟨_,ra⟩ ⟨_,rb⟩)
    have HB5:=hid hB5
    have RR5:=hid (And.intro ra (And.intro rb hr))
    have q6:w5.cell? ⟨X0+5,0,none⟩ = some (.func (.func 59) #[] #[.pointer (some ⟨X0,0,none⟩),.pointer (some ⟨X0+4,0,none⟩),.pointer (some ⟨X0+1,0,none⟩),.pointer (some ⟨X0+2,0,none⟩),.pointer (some ⟨X0+3,0,none⟩),.pointer (some ⟨X0+5,0,none⟩)]):=by rw [cell_of_row w5 (X0+5) 0 _ 113 (0,0) HP5.out.pw];rfl
    obtain ⟨d1,d2,d3,d4,d5⟩:=KE.out w5 (HBK.out.trans HB5.out)
    clear ra rb hr hB5 qa qb q5 c1 c2 c3 c4 c5 hq IHL
    cases rl with
    | some r =>
     simp only [Option.isSome_some]
     simp only at hO
     go_wp2
     go_ret
     exact ⟨s,t,by rw [← hO.out];rfl,RR5.out.1,RR5.out.2.1,(fun x hx => by rw [← hO.out] at hx;exact RR5.out.2.2 x hx),HFB.out.trans HB5.out⟩
    | none =>
     simp only [Option.isSome_none]
     simp only at hO
     go_wp2_with fail
     refine (IHR.out w5 HP5.out).mono ?_
     rintro ev w6 ⟨s',t',rfl,ra,rb,hr,hB6⟩
     have HB6:=hid hB6
     have RR6:=hid (And.intro ra (And.intro rb hr))
     clear ra rb hr hB6 q6 d1 d2 d3 d4 d5
     go_wp2
     go_ret
     exact ⟨s',t',by rw [← hO.out];rfl,RR6.out.1,RR6.out.2.1,(fun x hx => by rw [← hO.out] at hx;exact RR6.out.2.2 x hx),(HFB.out.trans HB5.out).trans HB6.out⟩
   ·have hpx:¬ p ++ q = x ++ y:=fun h => hq (bOf_inj (by rw [HS1.out.1,HS2.out.1,h]))
    have hO:=hout.out
    rw [if_neg hpx] at hO
    have hO:=hid hO
    clear hpx hout
    have hq1:¬ s1.toList = s2.toList:=fun h => by rw [Go.ByteArray.toList_eq,Go.ByteArray.toList_eq] at h;exact hq (ByteArray.ext (Array.toList_inj.1 h))
    have hq2:decide (s1.toList = s2.toList) = false:=by simp [hq1]
    have hq3:(s1.toList == s2.toList) = false:=by simp [hq1]
    have hq4:decide (s1 = s2) = false:=by simp [hq]
    go_wp2
    go_ret
    exact ⟨s1,s2,by rw [← hO.out];first | rfl | simp [hq1],RA.out,RB.out,(fun x hx => by rw [← hO.out] at hx;cases hx;exact ⟨HS1.out.1,HS2.out.1⟩),HFB.out⟩
  exact AllReadyH.nil
 exact AllReadyH.nil
/- forge.claim.part: where the log and the claim part: a leaf, a node, any stretch. Condition: the package-level variables read as listed. -/
theorem walk_any (a:Nat → Addr) (B base b0:Nat) (v:Value) (L:List ByteArray) (C X0 mb:Nat) (begin:Int) (S:Option Addr) (n cap:Nat) (D:List ByteArray) (m:List ((Int × Int) × List UInt8)) (hg0:0 ≤ begin):∀ (f:Nat) (b e:Int) (w:World),WalkPre a B base b0 v L C X0 mb begin S n cap D m w → 0 ≤ b → b < e → e ≤ (L.length:Int) → e - b ≤ pow2 f → (∀ i,fBare (saidL m) f b e i → begin ≤ i ∧ i < begin+n) →
 Calls Tryz.prog 59 #[.agg #[.int .u64 b,.int .u64 e],.pointer (some ⟨X0,0,none⟩),.pointer (some ⟨X0+4,0,none⟩),.pointer (some ⟨X0+1,0,none⟩),.pointer (some ⟨X0+2,0,none⟩),.pointer (some ⟨X0+3,0,none⟩),.pointer (some ⟨X0+5,0,none⟩)] w (WalkPost X0 (fWalk (saidL m) (claimLeaf D begin) L (logText L) (claimText D begin) f b e) w):=by
 intro f
 induction f with
 | zero =>
  intro b e w hP h0 h1 h9 hp hc
  rw [pow2_zero] at hp
  have hL:=hP.pre.log.1.1
  have hb:PB (b,e):=⟨h0,by simp only;omega,by simp only;omega,by simp only;omega⟩
  rw [fWalk]
  cases hh:saidL m (b,e) with
  | some h => exact walk_said a B base b0 v L C X0 mb begin S n cap D m b e h w hP hb hh
  | none =>
   have hi:=hc b ⟨hh,rfl⟩
   have hn:=hP.pre.data.1
   obtain ⟨d,hd⟩:∃ d,D[(b - begin).toNat]? = some d:=⟨_,List.getElem?_eq_getElem (by omega)⟩
   obtain ⟨x,hx⟩:∃ x,L[b.toNat]? = some x:=⟨_,List.getElem?_eq_getElem (by omega)⟩
   have e1:logText L b = bOf x:=by unfold logText;rw [List.getD_eq_getElem?_getD,hx];rfl
   have e2:claimText D begin b = bOf d:=by unfold claimText;rw [List.getD_eq_getElem?_getD,hd];rfl
   simp only [e1,e2]
   exact walk_leaf a B base b0 v L C X0 mb begin S n cap D m b e b.toNat (b - begin).toNat x d w hP hb hh h1 (by omega) (by omega) hg0 (by omega) (by omega) hx hd
 | succ f ih =>
  intro b e w hP h0 h1 h9 hp hc
  have hL:=hP.pre.log.1.1
  have hb:PB (b,e):=⟨h0,by simp only;omega,by simp only;omega,by simp only;omega⟩
  rw [fWalk]
  cases hh:saidL m (b,e) with
  | some h => exact walk_said a B base b0 v L C X0 mb begin S n cap D m b e h w hP hb hh
  | none =>
   by_cases h2:e - b < 2
   ·
    have hi:=hc b ⟨hh,by rw [if_pos h2]⟩
    have hn:=hP.pre.data.1
    obtain ⟨d,hd⟩:∃ d,D[(b - begin).toNat]? = some d:=⟨_,List.getElem?_eq_getElem (by omega)⟩
    obtain ⟨x,hx⟩:∃ x,L[b.toNat]? = some x:=⟨_,List.getElem?_eq_getElem (by omega)⟩
    have e1:logText L b = bOf x:=by unfold logText;rw [List.getD_eq_getElem?_getD,hx];rfl
    have e2:claimText D begin b = bOf d:=by unfold claimText;rw [List.getD_eq_getElem?_getD,hd];rfl
    simp only [if_pos h2,e1,e2]
    exact walk_leaf a B base b0 v L C X0 mb begin S n cap D m b e b.toNat (b - begin).toNat x d w hP hb hh h1 (by omega) h2 hg0 (by omega) (by omega) hx hd
   ·have hbl:=blwI_bd (n:=e - b) (by omega)
    have hk:=blwI_le_pow (n:=e - b) (f:=f) (by omega) hp
    have hps:=pow2_succ f
    simp only [if_neg h2]
    have l32:=fSays_len (saidL m) (claimLeaf D begin) (said32 hP.pre.said) (fun i => leafH_length _)
    have hl:=fun i hi => hc i ⟨hh,by rw [if_neg h2];exact .inl hi⟩
    have hr:=fun i hi => hc i ⟨hh,by rw [if_neg h2];exact .inr hi⟩
    exact walk_node a B base b0 v L C X0 mb begin S n cap D m b e _ _ _ _ _ _ _ _ rfl w hP hb hh h1 h9 (by omega) rfl rfl rfl (l32 _ _ _) (l32 _ _ _)
     (fun w' hw => says_any a B base b0 v L C X0 (X0+4) (X0+3) mb begin S n cap D m hg0 f b (b+blwI (e - b)) w' hw h0 (by omega) (by omega) (by omega) hl)
     (fun w' hw => says_any a B base b0 v L C X0 (X0+4) (X0+3) mb begin S n cap D m hg0 f (b+blwI (e - b)) e w' hw (by omega) (by omega) (by omega) (by omega) hr)
     (fun w' hw => ih b (b+blwI (e - b)) w' hw h0 (by omega) (by omega) (by omega) hl)
     (fun w' hw => ih (b+blwI (e - b)) e w' hw (by omega) (by omega) h9 (by omega) hr)
/- forge.claim.part: where the log and the claim part: a leaf, a node, any stretch. Condition: the package-level variables read as listed. -/
structure PartPre (a:Nat → Addr) (B base b0:Nat) (v:Value) (L:List ByteArray) (C mb:Nat) (begin:Int) (S:Option Addr) (n cap:Nat) (D:List ByteArray) (m:List ((Int × Int) × List UInt8)) (w:World):Prop where
 env:Env B a w
 log:LogAt base b0 v L w
 cl:w.heap[C]? = some (.cells #[.pointer (some ⟨b0,0,none⟩),.map (some mb),.int .u64 begin,.slice S n cap] 71 (0,0))
 said:SaidAt w mb m
 data:SIn w S n cap D
 small:∀ s ∈ D,s.size ≤ 100000000000
 sl:∀ g o,S = some ⟨g,o,none⟩ → g < w.heap.size
def PartPost (r:Option (List UInt8 × List UInt8)) (ev:Ending):Prop :=
 match r with
 | none => ev = .returned (.tuple #[.string ⟨#[]⟩,.string ⟨#[]⟩,.bool false])
 | some r => ∃ s t,ev = .returned (.tuple #[.string s,.string t,.bool true]) ∧ bOf s = r.1 ∧ bOf t = r.2
theorem run_loadVar_cell {P:Program} (w:World) (g:Nat) (ty:TypeId) (v:Value) (d:TypeDesc) (hg:w.cell? ⟨g,0,none⟩ = some v) (hu:P.underlying ty = some d) (hd:(match d with | .struct _ | .array _ _ => true | _ => false) = false) :
 (loadVar ty ⟨g,0,none⟩).run P w = .ok v w:=by
 have hagg:(isAgg ty).run P w = .ok false w:=by
  unfold isAgg
  rw [Sem.run_bind,run_underlying hu w]
  cases d <;> simp_all
 simp [loadVar,Sem.run_bind,hagg,hg]
theorem wpList_store_one_any {P:Program} {ops:Array Oper} {rest:List Oper} {o:Oper} {a:Act} {w:World} {Q:Exit → Act → World → Prop} (hgd:o.guard = none) (ty:TypeId) (x y:Operand) (ho:o.op = .store ty x y)
 (g:Nat) (v:Value) (hx:a.eval x = .pointer (some ⟨g,0,none⟩)) (hy:a.eval y = v) (h1:v.oneCell' = true)
 (t:TypeId) (old:Value) (hg:w.heap[g]? = some (.cells #[old] t (0,0))) (hi:(P.info? ty).map (·.size) = some 1)
 (h:∀ w',But (fun q => q = g) w w' → w'.heap[g]? = some (.cells #[v] t (0,0)) → wpList P ops Q rest (a.put o.dst undef) w'):wpList P ops Q (o :: rest) a w :=
 wpList_plain hgd fun _ hK => wp_store_one ty x y ho g v hx hy h1 t old hg hi (hK _ _ (h _ ((But.refl _ w).setRow g _ (fun _ => rfl)) (setRow_heap _ _ _ _ _ _ hg)))
theorem results_cell_cell_tmp {P:Program} {fn:Func} {p q u:Tmp} {ty:TypeId} (h:fn.results = #[.cell p ty,.cell q ty,.tmp u]) (tmps:Array Value) (w:World) (g g2:Nat) (v v2:Value) (d:TypeDesc)
 (hp:tmps.getD p undef = .pointer (some ⟨g,0,none⟩)) (hg:w.cell? ⟨g,0,none⟩ = some v) (hp2:tmps.getD q undef = .pointer (some ⟨g2,0,none⟩)) (hg2:w.cell? ⟨g2,0,none⟩ = some v2)
 (hu:P.underlying ty = some d) (hd:(match d with | .struct _ | .array _ _ => true | _ => false) = false) (x:Value) (hx:tmps.getD u undef = x) :
 (results fn tmps).run P w = .ok (.tuple #[v,v2,x]) w:=by
 subst hx
 rw [Array.getD_eq_getD_getElem?] at hp hp2
 simp only [results,h]
 simp [Sem.run_bind,hp,hp2,asAddr,run_loadVar_cell w g ty v d hg hu hd,run_loadVar_cell w g2 ty v2 d hg2 hu hd,Result.andThen]
theorem six_at (w:World) (o0 o1 o2 o3 o4 o5:Obj):Below w.heap.size w ((((((w.alloc o0).alloc o1).alloc o2).alloc o3).alloc o4).alloc o5) ∧
 ((((((w.alloc o0).alloc o1).alloc o2).alloc o3).alloc o4).alloc o5).heap[w.heap.size]? = some o0 ∧ ((((((w.alloc o0).alloc o1).alloc o2).alloc o3).alloc o4).alloc o5).heap[w.heap.size+1]? = some o1 ∧ ((((((w.alloc o0).alloc o1).alloc o2).alloc o3).alloc o4).alloc o5).heap[w.heap.size+2]? = some o2 ∧
 ((((((w.alloc o0).alloc o1).alloc o2).alloc o3).alloc o4).alloc o5).heap[w.heap.size+3]? = some o3 ∧ ((((((w.alloc o0).alloc o1).alloc o2).alloc o3).alloc o4).alloc o5).heap[w.heap.size+4]? = some o4 ∧ ((((((w.alloc o0).alloc o1).alloc o2).alloc o3).alloc o4).alloc o5).heap[w.heap.size+5]? = some o5:=by
 refine ⟨(((((((Below.refl _ _).alloc (Nat.le_refl _) _).alloc (by simp) _).alloc (by simp;omega) _).alloc (by simp;omega) _).alloc (by simp;omega) _).alloc (by simp;omega) _),?_⟩
 refine ⟨?_,?_,?_,?_,?_,?_⟩ <;> (simp only [World.alloc,Array.getElem?_push,Array.size_push];(repeat' split) <;> first | rfl | (exfalso;omega) | simp_all)
theorem PartPre.walk {a:Nat → Addr} {B base b0:Nat} {v:Value} {L:List ByteArray} {C mb:Nat} {begin:Int} {S:Option Addr} {n cap:Nat} {D:List ByteArray} {m:List ((Int × Int) × List UInt8)} {w:World} (h:PartPre a B base b0 v L C mb begin S n cap D m w) {X0:Nat} (hx:w.heap.size = X0) {wq:World} (hq:((((((w.alloc (.cells #[.pointer (some ⟨C,0,none⟩)] 67)).alloc (.cells #[.string ⟨#[]⟩] 9)).alloc (.cells #[.string ⟨#[]⟩] 9)).alloc (.cells #[.func (.func 57) #[] #[.pointer (some ⟨X0,0,none⟩),.pointer (some ⟨X0+4,0,none⟩),.pointer (some ⟨X0+3,0,none⟩)]] 108)).alloc (.cells #[.func (.func 56) #[] #[]] 109)).alloc (.cells #[.func (.func 59) #[] #[.pointer (some ⟨X0,0,none⟩),.pointer (some ⟨X0+4,0,none⟩),.pointer (some ⟨X0+1,0,none⟩),.pointer (some ⟨X0+2,0,none⟩),.pointer (some ⟨X0+3,0,none⟩),.pointer (some ⟨X0+5,0,none⟩)]] 113)) = wq):WalkPre a B base b0 v L C X0 mb begin S n cap D m wq ∧ Below w.heap.size w wq:=by
 subst hx
 subst hq
 obtain ⟨hb,h0,h1,h2,h3,h4,h5⟩:=six_at w (.cells #[.pointer (some ⟨C,0,none⟩)] 67) (.cells #[.string ⟨#[]⟩] 9) (.cells #[.string ⟨#[]⟩] 9) (.cells #[.func (.func 57) #[] #[.pointer (some ⟨w.heap.size,0,none⟩),.pointer (some ⟨w.heap.size+4,0,none⟩),.pointer (some ⟨w.heap.size+3,0,none⟩)]] 108) (.cells #[.func (.func 56) #[] #[]] 109) (.cells #[.func (.func 59) #[] #[.pointer (some ⟨w.heap.size,0,none⟩),.pointer (some ⟨w.heap.size+4,0,none⟩),.pointer (some ⟨w.heap.size+1,0,none⟩),.pointer (some ⟨w.heap.size+2,0,none⟩),.pointer (some ⟨w.heap.size+3,0,none⟩),.pointer (some ⟨w.heap.size+5,0,none⟩)]] 113)
 have hC:=(Array.getElem?_eq_some_iff.1 h.cl).1
 exact ⟨⟨⟨h.env.step hb,h.log.below hb,(hb.block C hC).trans h.cl,h0,h4,h3,h.said.below hb h.said.lt,h.data.below hb,h.small⟩,⟨_,h1⟩,⟨_,h2⟩,h5,⟨h.env.laid.size,hC,h.said.lt,h.log.lt,fun g hg => (h.log.2.2.2.1.lt g hg).2,h.sl⟩⟩,hb⟩
theorem part_any (a:Nat → Addr) (B base b0:Nat) (v:Value) (L:List ByteArray) (C mb:Nat) (begin:Int) (S:Option Addr) (n cap:Nat) (D:List ByteArray) (m:List ((Int × Int) × List UInt8)) (sz:Nat) (w:World) (hP:PartPre a B base b0 v L C mb begin S n cap D m w) (hg0:0 ≤ begin) (h0:0 < sz) (h1:sz ≤ L.length) (hc:∀ i,fBare (saidL m) 64 0 sz i → begin ≤ i ∧ i < begin+n) :
 Calls Tryz.prog 27 #[.pointer (some ⟨C,0,none⟩),.int .u64 sz] w fun ev w' => PartPost (fWalk (saidL m) (claimLeaf D begin) L (logText L) (claimText D begin) 64 0 sz) ev ∧ Below w.heap.size w w':=by
 obtain ⟨out,hout⟩:∃ z,(fWalk (saidL m) (claimLeaf D begin) L (logText L) (claimText D begin) 64 0 sz) = z:=⟨_,rfl⟩
 have hL:=hP.log.1.1
 obtain ⟨X0,hX0⟩:∃ z,w.heap.size = z:=⟨_,rfl⟩
 obtain ⟨wq,hwq⟩:∃ z,((((((w.alloc (.cells #[.pointer (some ⟨C,0,none⟩)] 67)).alloc (.cells #[.string ⟨#[]⟩] 9)).alloc (.cells #[.string ⟨#[]⟩] 9)).alloc (.cells #[.func (.func 57) #[] #[.pointer (some ⟨X0,0,none⟩),.pointer (some ⟨X0+4,0,none⟩),.pointer (some ⟨X0+3,0,none⟩)]] 108)).alloc (.cells #[.func (.func 56) #[] #[]] 109)).alloc (.cells #[.func (.func 59) #[] #[.pointer (some ⟨X0,0,none⟩),.pointer (some ⟨X0+4,0,none⟩),.pointer (some ⟨X0+1,0,none⟩),.pointer (some ⟨X0+2,0,none⟩),.pointer (some ⟨X0+3,0,none⟩),.pointer (some ⟨X0+5,0,none⟩)]] 113)) = z:=⟨_,rfl⟩
 have HPQ:=hid (hP.walk hX0 hwq)
 have HW:Hid (Calls Tryz.prog 59 #[.agg #[.int .u64 0,.int .u64 sz],.pointer (some ⟨X0,0,none⟩),.pointer (some ⟨X0+4,0,none⟩),.pointer (some ⟨X0+1,0,none⟩),.pointer (some ⟨X0+2,0,none⟩),.pointer (some ⟨X0+3,0,none⟩),.pointer (some ⟨X0+5,0,none⟩)] wq (WalkPost X0 out wq)):=hid (by
  rw [← hout]
  exact walk_any a B base b0 v L C X0 mb begin S n cap D m hg0 64 0 sz wq HPQ.out.1 (by omega) (by omega) (by omega) (by rw [pow2_64];omega) hc)
 rw [hout]
 have HX:=hid hX0
 have HWQ:=hid hwq
 clear hP hout hL hwq h0 h1 hc hg0
 go_enter Tryz.func27,Tryz.ntmps27
 go_upto_region 6 with fail
 simp only [Nat.add_assoc,Nat.reduceAdd]
 rw [HWQ.out]
 have q5:wq.cell? ⟨X0+5,0,none⟩ = some (.func (.func 59) #[] #[.pointer (some ⟨X0,0,none⟩),.pointer (some ⟨X0+4,0,none⟩),.pointer (some ⟨X0+1,0,none⟩),.pointer (some ⟨X0+2,0,none⟩),.pointer (some ⟨X0+3,0,none⟩),.pointer (some ⟨X0+5,0,none⟩)]):=by rw [cell_of_row wq (X0+5) 0 _ 113 (0,0) HPQ.out.1.pw];rfl
 go_wp2_with fail
 refine HW.out.mono ?_
 rintro ev w2 ⟨s,t,rfl,ra,rb,hr,hB⟩
 have RA:=hid ra
 have RB:=hid rb
 have HR:=hid hr
 have HB2:Hid (Below w.heap.size w w2):=hid (HPQ.out.2.trans (hB.to_below HPQ.out.2.size (fun k hk => by show ¬ (k = X0+1 ∨ k = X0+2);have:=HX.out;omega)))
 clear ra rb hr hB q5
 cases out with
 | none =>
  simp only [Option.isSome_none]
  go_wp2_with (first
   | (refine wpList_store_one_any rfl 9 _ _ rfl (X0+1) (.string ⟨#[]⟩) rfl rfl rfl 9 _ RA.out (by kernel_rfl) ?_;intro w3 hbA hgA;have BA:=hid hbA;have GA:=hid hgA;clear hbA hgA)
   | (refine wpList_store_one_any rfl 9 _ _ rfl (X0+2) (.string ⟨#[]⟩) rfl rfl rfl 9 _ ((BA.out.same _ (Array.getElem?_eq_some_iff.1 RB.out).1 (by omega)).trans RB.out) (by kernel_rfl) ?_;intro w4 hbB hgB;have BC:=hid hbB;have GB:=hid hgB;clear hbB hgB))
  have g1:w4.cell? ⟨X0+1,0,none⟩ = some (.string ⟨#[]⟩):=by rw [cell_of_row w4 (X0+1) 0 _ 9 (0,0) ((BC.out.same _ (Array.getElem?_eq_some_iff.1 GA.out).1 (by omega)).trans GA.out)];rfl
  have g2:w4.cell? ⟨X0+2,0,none⟩ = some (.string ⟨#[]⟩):=by rw [cell_of_row w4 (X0+2) 0 _ 9 (0,0) GB.out];rfl
  have HB3:Hid (But (fun q => q = X0+1 ∨ q = X0+2) w2 w4):=hid ((BA.out.mono (T:=(fun q => q = X0+1 ∨ q = X0+2)) (fun _ _ q => .inl q)).step BC.out (fun _ _ q => .inr q))
  refine bodyPost_ret (v:=.tuple #[.string ⟨#[]⟩,.string ⟨#[]⟩,.bool false]) (results_cell_cell_tmp rfl _ _ (X0+1) (X0+2) (.string ⟨#[]⟩) (.string ⟨#[]⟩) _ rfl g1 rfl g2 Tryz.underlying9 rfl _ rfl) rfl ⟨?_,HB2.out.trans (HB3.out.to_below (B:=w.heap.size) HB2.out.size (fun k hk => by show ¬ (k = X0+1 ∨ k = X0+2);have:=HX.out;omega))⟩
  exact rfl
 | some r =>
  simp only [Option.isSome_some]
  go_wp2_with fail
  refine wp_region_held_drew (S:=(fun w' => But (fun q => q = X0+1 ∨ q = X0+2) w2 w' ∧ w'.heap[X0+1]? = some (.cells #[.string s] 9 (0,0)) ∧ w'.heap[X0+2]? = some (.cells #[.string t] 9 (0,0)))) (by kernel_rfl) ⟨(But.refl _ w2).drew,RA.out,RB.out⟩ (fun hHeld => ?_)
  refine tk (i:=0) (v:=?v48) rfl ?y48 ?r48
  case y48 => (intro w hSw;(try dsimp only at hSw);have z1:w.cell? ⟨X0+1,0,none⟩ = some (.string s):=(by rw [cell_of_row w (X0+1) 0 _ 9 (0,0) hSw.2.1];rfl);go_simp;(try with_reducible rfl))
  try simp only [pu]
  refine tk (i:=1) (v:=?v49) rfl ?y49 ?r49
  case y49 => (intro w hSw;(try dsimp only at hSw);have z1:w.cell? ⟨X0+2,0,none⟩ = some (.string t):=(by rw [cell_of_row w (X0+2) 0 _ 9 (0,0) hSw.2.2];rfl);go_simp;(try with_reducible rfl))
  try simp only [pu]
  refine wpAnyH_ready (rs:=[2]) (by kernel_rfl) (by simp) ?_
  refine AllReadyH.cons (i:=2) rfl (fun K2 hK2 => ?_) AllReadyH.nil
  rw [if_pos (by rfl)]
  refine wp_store_one 9 _ _ rfl (X0+1) (.string s) rfl (by rfl) rfl 9 _ (RA.out) (by kernel_rfl) ?_
  refine hK2.out _ _ ⟨But.setRow ((But.refl (fun q => q = X0+1 ∨ q = X0+2) w2).drew) (X0+1) _ (fun _ => Or.inl rfl),(setRow_heap _ _ _ _ _ _ RA.out),((setRow_other _ _ _ _ (by omega)).trans RB.out)⟩ (fun hHeld2 => ?_)
  clear hK2 K2
  try simp only [Act.put,List.getElem_toArray,List.getElem_cons_zero,List.getElem_cons_succ]
  refine wpAnyH_ready (rs:=[3]) (by kernel_rfl) (by simp) ?_
  refine AllReadyH.cons (i:=3) rfl (fun K2 hK2 => ?_) AllReadyH.nil
  rw [if_pos (by rfl)]
  refine wp_store_one 9 _ _ rfl (X0+2) (.string t) rfl (by rfl) rfl 9 _ (((setRow_other _ _ _ _ (by omega)).trans RB.out)) (by kernel_rfl) ?_
  refine hK2.out _ _ ⟨But.setRow (hHeld2.1) (X0+2) _ (fun _ => Or.inr rfl),((setRow_other _ _ _ _ (by omega)).trans ((setRow_heap _ _ _ _ _ _ RA.out))),(setRow_heap _ _ _ _ _ _ ((setRow_other _ _ _ _ (by omega)).trans RB.out))⟩ (fun hHeld2 => ?_)
  clear hK2 K2
  try simp only [Act.put,List.getElem_toArray,List.getElem_cons_zero,List.getElem_cons_succ]
  refine tk (i:=4) (v:=?v50) rfl ?y50 ?r50
  case y50 => (intro w hSw;(try dsimp only at hSw);go_simp;(try with_reducible rfl))
  try simp only [pu]
  refine wpAnyH_done (by kernel_rfl) ?_ _
  obtain ⟨hB3,ra3,rb3⟩:=hHeld2
  obtain ⟨w3,hw3⟩:∃ z,((w2.drew.setRow (X0+1) #[.string s]).setRow (X0+2) #[.string t]) = z:=⟨_,rfl⟩
  rw [hw3] at ra3 rb3 hB3 ⊢
  clear hw3 hHeld
  have RA3:=hid ra3
  have RB3:=hid rb3
  have HB3:=hid hB3
  have g1:w3.cell? ⟨X0+1,0,none⟩ = some (.string s):=by rw [cell_of_row w3 (X0+1) 0 _ 9 (0,0) ra3];rfl
  have g2:w3.cell? ⟨X0+2,0,none⟩ = some (.string t):=by rw [cell_of_row w3 (X0+2) 0 _ 9 (0,0) rb3];rfl
  clear ra3 rb3 hB3
  go_wp2
  refine bodyPost_ret (v:=.tuple #[.string s,.string t,.bool true]) (results_cell_cell_tmp rfl _ _ (X0+1) (X0+2) (.string s) (.string t) _ rfl g1 rfl g2 Tryz.underlying9 rfl _ rfl) rfl ⟨?_,HB2.out.trans (HB3.out.to_below (B:=w.heap.size) HB2.out.size (fun k hk => by show ¬ (k = X0+1 ∨ k = X0+2);have:=HX.out;omega))⟩
  exact ⟨s,t,rfl,HR.out _ rfl⟩
end Go.Proofs.YtpdkpdpkggepcaaGreatDoor
