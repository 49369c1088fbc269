import Derived.Test.YtpdkpdpkggepcaaGreatDoorRefNode
import Derived.Test.YtpdkpdpkggepcaaGreatDoorHashAid
import Derived.Test.YtpdkpdpkggepcaaGreatDoorLen64
import Derived.StillTailTactics
/- batch.walk.says: what a proof says of a stretch. -/
namespace Go.Proofs.YtpdkpdpkggepcaaGreatDoor
open Go.ChangeShapes Go.WideShapes Go.ChangeAt Go.RowKit
set_option maxRecDepth 100000
set_option maxHeartbeats 4000000
open Lib (hid)
set_option linter.unusedVariables false
theorem note_any (b e b2 e2:Int) (p q:List UInt8) (w:World):Calls Tryz.prog 118 #[.agg #[.int .u64 b,.int .u64 e],.agg #[.int .u64 b2,.int .u64 e2],hv p,hv q] w fun ev w' => ev = .returned (.tuple #[]) ∧ Below w.heap.size w w':=by
 obtain ⟨vp,hvp⟩:∃ vp,hv p = .agg vp:=⟨_,rfl⟩
 obtain ⟨vq,hvq⟩:∃ vq,hv q = .agg vq:=⟨_,rfl⟩
 rw [hvp,hvq]
 clear hvp hvq
 go_enter Tryz.func118,Tryz.ntmps118
 go_wp2
 go_end0
 refine ⟨rfl,((((Below.refl _ w).alloc (Nat.le_refl _) _).alloc (by simp) _).alloc (by simp;omega) _).alloc (by simp;omega) _⟩
theorem hashCells_head {w:World} {g o:Nat} {p:List UInt8} {r:List (List UInt8)} (h:w.rangeAt g o (hashCells (p :: r))):w.rangeAt g o (bytesV p):=fun j v hj => h j v (by rw [hashCells_cons,List.getElem?_append_left (List.getElem?_eq_some_iff.1 hj).1];exact hj)
theorem hashCells_tail {w:World} {g o:Nat} {p:List UInt8} {r:List (List UInt8)} (hp:p.length = 32) (h:w.rangeAt g o (hashCells (p :: r))):w.rangeAt g (o+32) (hashCells r):=fun j v hj => by
 have:=h (32+j) v (by rw [hashCells_cons,List.getElem?_append_right (by rw [bytesV_length];omega),bytesV_length,hp,Nat.add_sub_cancel_left];exact hj)
 rwa [← Nat.add_assoc] at this
def WalkAt (w:World) (W:Nat) (x:Int) (lv pv nt:Value):Prop:=w.heap[W]? = some (.cells #[.int .u64 x,lv,pv,nt] 197 (0,0))
theorem bsays_out (W g o cap n:Nat) (x b e:Int) (lv nt:Value) (p:List UInt8) (r:List (List UInt8)) (w:World) (hW:WalkAt w W x lv (.slice (some ⟨g,o,none⟩) (n+1) cap) nt) (hx0:0 ≤ x) (hb:0 ≤ b) (he:b < e) (hem:e ≤ 9223372036854775808) (hex:e ≤ x)
 (hn:r.length = n) (hc:n+1 ≤ cap) (hcm:cap ≤ 9223372036854775807) (hp:p.length = 32) (hr:w.rangeAt g o (hashCells (p :: r))) (hgW:g ≠ W) :
 Calls Tryz.prog 112 #[.pointer (some ⟨W,0,none⟩),.agg #[.int .u64 b,.int .u64 e]] w fun ev w' => ev = .returned (hv p) ∧ (∃ A c,WalkAt w' W x lv (.slice A n c) nt ∧ n ≤ c ∧ c ≤ 9223372036854775807 ∧ (r = [] ∨ ∃ o2,A = some ⟨g,o2,none⟩ ∧ w'.rangeAt g o2 (hashCells r))) ∧ But (· = W) w w':=by
 have c0:w.cell? ⟨W,0,none⟩ = some (.int .u64 x):=by rw [cell_of_row w W 0 _ 197 (0,0) hW];rfl
 have c2:w.cell? ⟨W,2,none⟩ = some (.slice (some ⟨g,o,none⟩) (n+1) cap):=by rw [cell_of_row w W 2 _ 197 (0,0) hW];rfl
 have hWl:W < w.heap.size:=(Array.getElem?_eq_some_iff.1 hW).1
 have hd:decide (e ≤ x) = true:=by simp;exact hex
 have hW':=hid hW
 have HR:=hid (And.intro hr (And.intro hn hp))
 have hgl:=rangeAt_lt (hashCells_head hr) (by intro q;have:=congrArg List.length q;rw [bytesV_length,hp] at this;simp at this)
 have e1:(0:Int) < (n:Int)+1:=by omega
 have e2:(1:Int) ≤ (n:Int)+1:=by omega
 have e3:(n:Int)+1 ≤ cap:=by omega
 obtain ⟨ps,hps⟩:∃ ps,bytesV p = ps:=⟨_,rfl⟩
 have kr:Hid (∀ w',Below w.heap.size w w' → w'.rangeAt g o ps):=hid (fun w' hb => by rw [← hps];exact rangeAt_below hb (hashCells_head hr) hgl)
 have hpl:ps.length = 32:=by rw [← hps,bytesV_length,hp]
 have HI:=hid (show (Tryz.prog.info? 39).map (·.size) = some ps.length by rw [hpl];kernel_rfl)
 have HI2:=hid (show (Tryz.prog.info? 39).map (·.size) = some ps.toArray.size by simp only [List.size_toArray,hpl];kernel_rfl)
 have HO:=hid (show ps.toArray.all (·.oneCell') = true by rw [← hps];exact bytesV_all _)
 have HZ:=hid (show ps.toArray.size = 32 by simp [hpl])
 have HPS:=hid hps
 have hbx:(Tryz.prog.info? 84).map (·.size) = some 2:=by kernel_rfl
 obtain ⟨wv,hwv⟩:∃ wv,(w.alloc (.cells #[.int .u64 b,.int .u64 e] 84)).alloc (.cells (List.replicate 32 (Value.int .u8 0)).toArray 39) = wv:=⟨_,rfl⟩
 have hBv:Below w.heap.size w wv:=by rw [← hwv];exact ((Below.refl _ _).alloc (Nat.le_refl _) _).alloc (by simp) _
 have hsv:wv.heap.size = w.heap.size+1+1:=by rw [← hwv];simp
 have hzv:wv.heap[w.heap.size+1]? = some (.cells (List.replicate 32 (Value.int .u8 0)).toArray 39 (0,0)):=by rw [← hwv];exact heap_at _ _ _ (by simp)
 have hsp:wv.heap[w.heap.size]? = some (.cells #[.int .u64 b,.int .u64 e] 84 (0,0)):=by rw [← hwv,((Below.refl _ (w.alloc (.cells #[.int .u64 b,.int .u64 e] 84))).alloc (Nat.le_refl _) _).block _ (by simp)];exact heap_at _ _ _ rfl
 have s0:wv.cell? ⟨w.heap.size,0,none⟩ = some (.int .u64 b):=by rw [cell_of_row wv w.heap.size 0 _ 84 (0,0) hsp];rfl
 have s1:wv.cell? ⟨w.heap.size,1,none⟩ = some (.int .u64 e):=by rw [cell_of_row wv w.heap.size 1 _ 84 (0,0) hsp];rfl
 have v0:=cell_below hBv c0 hWl
 have v2:=cell_below hBv c2 hWl
 have HBv:=hid hBv
 have HWV:=hid (show (w.alloc (.cells #[.int .u64 b,.int .u64 e] 84)).alloc (.cells (List.replicate 32 (Value.int .u8 0)).toArray 39) = wv from hwv)
 simp only [List.replicate,List.toArray] at HWV
 have HSV:=hid hsv
 have HZV:=hid hzv
 clear hW hr hn hp hps hpl hwv hBv hsv hzv hsp c0 c2
 have hWv:W < wv.heap.size:=by have:=HBv.out.size;omega
 have hsw:w.heap.size < wv.heap.size:=by have:=HSV.out;omega
 go_enter Tryz.func112,Tryz.ntmps112
 go_wp2_with fail
 rw [HWV.out]
 go_quiet (fail)
 rcases (by omega:cap = 1 ∨ 1 < cap) with h1c | h1c
 all_goals
  go_wp2_with (first
   | (refine wpList_load_mid rfl 39 _ rfl g o rfl ps _ (kr.out _ (by repeat (first | exact Below.refl _ _ | exact HBv.out | refine Below.drew ?_ | refine below_drewN ?_ | refine Below.alloc ?_ (by first | (simp;done) | (simp;omega)) _))) Tryz.underlying39 rfl HI.out ?_)
   | (refine wpList_store_row_any rfl 39 _ _ rfl wv.heap.size ps.toArray rfl rfl 39 _ (heap_at _ _ _ (by simp [World.drewN])) HI2.out (by rw [HZ.out];rfl) HO.out ?_;intro w5 hb5 hg5 hs5;go_loud (have hB5:Below wv.heap.size wv w5:=((below_drewN (n:=nq) (Below.refl wv.heap.size wv)).alloc (Nat.le_refl _) _).trans (hb5.to_below (by simp [World.drewN]) (fun k hk q => by omega));have c25:=cell_below hB5 v2 hWv;have f25:w5.frozen? ⟨W,2,none⟩ = false:=frozen_of_row w5 W 2 _ 197 (((hB5.block W hWv).trans (HBv.out.block W hWl)).trans hW'.out);have HB5:=hid hB5;have HG5:=hid hg5;have HZ5:=hid ((hB5.block (w.heap.size+1) (by have:=HSV.out;omega)).trans HZV.out);have HW5:=hid (((hB5.block W hWv).trans (HBv.out.block W hWl)).trans hW'.out);have hs5g:W < w5.heap.size:=(by have:=hB5.size;omega);clear hB5 hb5 hg5))
   | (refine wpList_load_row rfl 39 _ rfl wv.heap.size rfl 39 ps.toArray (0,0) _ ((heap_setCell_other _ _ _ _ (by simp;omega)).trans HG5.out) Tryz.underlying39 rfl HI2.out ?_)
   | (refine wpList_store_row rfl 39 _ _ rfl (w.heap.size+1) ps.toArray rfl rfl 39 _ ((heap_setCell_other _ _ _ _ (by simp;omega)).trans HZ5.out) HI2.out (by rw [HZ.out];simp) HO.out ?_))
  refine bodyPost_ret (v:=.agg ps.toArray) (results_cell_row rfl _ _ (w.heap.size+1) 39 ps.toArray (0,0) _ rfl (setRow_heap _ _ _ _ _ _ ((heap_setCell_other _ _ _ _ (by simp;omega)).trans HZ5.out)) Tryz.underlying39 rfl HI2.out) rfl ⟨by rw [hv,HPS.out],?_,?_⟩
  ·(first | refine ⟨some ⟨g,o,none⟩,0,(setRow_other _ _ _ _ (show W ≠ w.heap.size+1 by omega)).trans (heap_setCell_same _ _ _ _ _ _ HW5.out),by omega,by omega,?_⟩ | refine ⟨some ⟨g,o+32,none⟩,cap - 1,(setRow_other _ _ _ _ (show W ≠ w.heap.size+1 by omega)).trans (heap_setCell_same _ _ _ _ _ _ HW5.out),by omega,by omega,?_⟩)
   by_cases hr0:r = []
   ·exact .inl hr0
   ·have hrl:0 < r.length:=List.length_pos_iff.2 hr0
    have hrn:=HR.out.2.1
    first
     | (exfalso;omega)
     | exact .inr ⟨_,rfl,rangeAt_block ((setRow_other _ _ _ _ (show g ≠ w.heap.size+1 by omega)).trans (heap_setCell_other _ _ _ _ hgW)) (rangeAt_below (HBv.out.trans (HB5.out.mono HBv.out.size)) (hashCells_tail HR.out.2.2 HR.out.1) hgl)⟩
  ·exact ((But.new (S:=(· = W)) (HBv.out.trans (HB5.out.mono HBv.out.size))).setCell W 2 _ (fun _ => rfl)).setRow (w.heap.size+1) _ (fun h => absurd h (Nat.not_lt.2 (Nat.le_succ _)))
theorem bsays_past (W g o cap n:Nat) (x b e:Int) (lA:Option Addr) (m lcap:Nat) (nt:Value) (p:List UInt8) (r:List (List UInt8)) (w:World) (hW:WalkAt w W x (.slice lA m lcap) (.slice (some ⟨g,o,none⟩) (n+1) cap) nt) (hx0:0 ≤ x) (hb:0 ≤ b) (he:b < e) (hem:e ≤ 9223372036854775808) (hnx:x < e) (hyb:x+m ≤ b)
 (hn:r.length = n) (hc:n+1 ≤ cap) (hcm:cap ≤ 9223372036854775807) (hp:p.length = 32) (hr:w.rangeAt g o (hashCells (p :: r))) (hgW:g ≠ W) :
 Calls Tryz.prog 112 #[.pointer (some ⟨W,0,none⟩),.agg #[.int .u64 b,.int .u64 e]] w fun ev w' => ev = .returned (hv p) ∧ (∃ A c,WalkAt w' W x (.slice lA m lcap) (.slice A n c) nt ∧ n ≤ c ∧ c ≤ 9223372036854775807 ∧ (r = [] ∨ ∃ o2,A = some ⟨g,o2,none⟩ ∧ w'.rangeAt g o2 (hashCells r))) ∧ But (· = W) w w':=by
 have c0:w.cell? ⟨W,0,none⟩ = some (.int .u64 x):=by rw [cell_of_row w W 0 _ 197 (0,0) hW];rfl
 have c2:w.cell? ⟨W,2,none⟩ = some (.slice (some ⟨g,o,none⟩) (n+1) cap):=by rw [cell_of_row w W 2 _ 197 (0,0) hW];rfl
 have hWl:W < w.heap.size:=(Array.getElem?_eq_some_iff.1 hW).1
 have hd:decide (e ≤ x) = false:=by simp;exact hnx
 have hd2:decide (x+(m:Int) ≤ b) = true:=by simp;exact hyb
 have hm9:x+(m:Int) < 18446744073709551616:=by omega
 have hm8:(m:Int) < 18446744073709551616:=by omega
 have c1:w.cell? ⟨W,1,none⟩ = some (.slice lA m lcap):=by rw [cell_of_row w W 1 _ 197 (0,0) hW];rfl
 have HNX:=hid hnx
 have hW':=hid hW
 have HR:=hid (And.intro hr (And.intro hn hp))
 have hgl:=rangeAt_lt (hashCells_head hr) (by intro q;have:=congrArg List.length q;rw [bytesV_length,hp] at this;simp at this)
 have e1:(0:Int) < (n:Int)+1:=by omega
 have e2:(1:Int) ≤ (n:Int)+1:=by omega
 have e3:(n:Int)+1 ≤ cap:=by omega
 obtain ⟨ps,hps⟩:∃ ps,bytesV p = ps:=⟨_,rfl⟩
 have kr:Hid (∀ w',Below w.heap.size w w' → w'.rangeAt g o ps):=hid (fun w' hb => by rw [← hps];exact rangeAt_below hb (hashCells_head hr) hgl)
 have hpl:ps.length = 32:=by rw [← hps,bytesV_length,hp]
 have HI:=hid (show (Tryz.prog.info? 39).map (·.size) = some ps.length by rw [hpl];kernel_rfl)
 have HI2:=hid (show (Tryz.prog.info? 39).map (·.size) = some ps.toArray.size by simp only [List.size_toArray,hpl];kernel_rfl)
 have HO:=hid (show ps.toArray.all (·.oneCell') = true by rw [← hps];exact bytesV_all _)
 have HZ:=hid (show ps.toArray.size = 32 by simp [hpl])
 have HPS:=hid hps
 have hbx:(Tryz.prog.info? 84).map (·.size) = some 2:=by kernel_rfl
 obtain ⟨wv,hwv⟩:∃ wv,(w.alloc (.cells #[.int .u64 b,.int .u64 e] 84)).alloc (.cells (List.replicate 32 (Value.int .u8 0)).toArray 39) = wv:=⟨_,rfl⟩
 have hBv:Below w.heap.size w wv:=by rw [← hwv];exact ((Below.refl _ _).alloc (Nat.le_refl _) _).alloc (by simp) _
 have hsv:wv.heap.size = w.heap.size+1+1:=by rw [← hwv];simp
 have hzv:wv.heap[w.heap.size+1]? = some (.cells (List.replicate 32 (Value.int .u8 0)).toArray 39 (0,0)):=by rw [← hwv];exact heap_at _ _ _ (by simp)
 have hsp:wv.heap[w.heap.size]? = some (.cells #[.int .u64 b,.int .u64 e] 84 (0,0)):=by rw [← hwv,((Below.refl _ (w.alloc (.cells #[.int .u64 b,.int .u64 e] 84))).alloc (Nat.le_refl _) _).block _ (by simp)];exact heap_at _ _ _ rfl
 have s0:wv.cell? ⟨w.heap.size,0,none⟩ = some (.int .u64 b):=by rw [cell_of_row wv w.heap.size 0 _ 84 (0,0) hsp];rfl
 have s1:wv.cell? ⟨w.heap.size,1,none⟩ = some (.int .u64 e):=by rw [cell_of_row wv w.heap.size 1 _ 84 (0,0) hsp];rfl
 have v0:=cell_below hBv c0 hWl
 have v2:=cell_below hBv c2 hWl
 have v1:=cell_below hBv c1 hWl
 have HBv:=hid hBv
 have HWV:=hid (show (w.alloc (.cells #[.int .u64 b,.int .u64 e] 84)).alloc (.cells (List.replicate 32 (Value.int .u8 0)).toArray 39) = wv from hwv)
 simp only [List.replicate,List.toArray] at HWV
 have HSV:=hid hsv
 have HZV:=hid hzv
 clear hW hr hn hp hps hpl hwv hBv hsv hzv hsp c0 c2 c1 hnx
 have hWv:W < wv.heap.size:=by have:=HBv.out.size;omega
 have hsw:w.heap.size < wv.heap.size:=by have:=HSV.out;omega
 go_enter Tryz.func112,Tryz.ntmps112
 go_wp2_with fail
 rw [HWV.out]
 go_quiet (fail)
 rcases (by omega:cap = 1 ∨ 1 < cap) with h1c | h1c
 all_goals
  go_wp2_with (first
   | (refine wpList_load_mid rfl 39 _ rfl g o rfl ps _ (kr.out _ (by repeat (first | exact Below.refl _ _ | exact HBv.out | refine Below.drew ?_ | refine below_drewN ?_ | refine Below.alloc ?_ (by first | (simp;done) | (simp;omega)) _))) Tryz.underlying39 rfl HI.out ?_)
   | (refine wpList_store_row_any rfl 39 _ _ rfl wv.heap.size ps.toArray rfl rfl 39 _ (heap_at _ _ _ (by simp [World.drewN])) HI2.out (by rw [HZ.out];rfl) HO.out ?_;intro w5 hb5 hg5 hs5;go_loud (have hB5:Below wv.heap.size wv w5:=((below_drewN (n:=nq) (Below.refl wv.heap.size wv)).alloc (Nat.le_refl _) _).trans (hb5.to_below (by simp [World.drewN]) (fun k hk q => by omega));have c25:=cell_below hB5 v2 hWv;have f25:w5.frozen? ⟨W,2,none⟩ = false:=frozen_of_row w5 W 2 _ 197 (((hB5.block W hWv).trans (HBv.out.block W hWl)).trans hW'.out);have HB5:=hid hB5;have HG5:=hid hg5;have HZ5:=hid ((hB5.block (w.heap.size+1) (by have:=HSV.out;omega)).trans HZV.out);have HW5:=hid (((hB5.block W hWv).trans (HBv.out.block W hWl)).trans hW'.out);have hs5g:W < w5.heap.size:=(by have:=hB5.size;omega);clear hB5 hb5 hg5))
   | (refine wpList_load_row rfl 39 _ rfl wv.heap.size rfl 39 ps.toArray (0,0) _ ((heap_setCell_other _ _ _ _ (by simp;omega)).trans HG5.out) Tryz.underlying39 rfl HI2.out ?_)
   | (refine wpList_store_row rfl 39 _ _ rfl (w.heap.size+1) ps.toArray rfl rfl 39 _ ((heap_setCell_other _ _ _ _ (by simp;omega)).trans HZ5.out) HI2.out (by rw [HZ.out];simp) HO.out ?_))
  refine bodyPost_ret (v:=.agg ps.toArray) (results_cell_row rfl _ _ (w.heap.size+1) 39 ps.toArray (0,0) _ rfl (setRow_heap _ _ _ _ _ _ ((heap_setCell_other _ _ _ _ (by simp;omega)).trans HZ5.out)) Tryz.underlying39 rfl HI2.out) rfl ⟨by rw [hv,HPS.out],?_,?_⟩
  ·(first | refine ⟨some ⟨g,o,none⟩,0,(setRow_other _ _ _ _ (show W ≠ w.heap.size+1 by omega)).trans (heap_setCell_same _ _ _ _ _ _ HW5.out),by omega,by omega,?_⟩ | refine ⟨some ⟨g,o+32,none⟩,cap - 1,(setRow_other _ _ _ _ (show W ≠ w.heap.size+1 by omega)).trans (heap_setCell_same _ _ _ _ _ _ HW5.out),by omega,by omega,?_⟩)
   by_cases hr0:r = []
   ·exact .inl hr0
   ·have hrl:0 < r.length:=List.length_pos_iff.2 hr0
    have hrn:=HR.out.2.1
    first
     | (exfalso;omega)
     | exact .inr ⟨_,rfl,rangeAt_block ((setRow_other _ _ _ _ (show g ≠ w.heap.size+1 by omega)).trans (heap_setCell_other _ _ _ _ hgW)) (rangeAt_below (HBv.out.trans (HB5.out.mono HBv.out.size)) (hashCells_tail HR.out.2.2 HR.out.1) hgl)⟩
  ·exact ((But.new (S:=(· = W)) (HBv.out.trans (HB5.out.mono HBv.out.size))).setCell W 2 _ (fun _ => rfl)).setRow (w.heap.size+1) _ (fun h => absurd h (Nat.not_lt.2 (Nat.le_succ _)))
/- batch.walk.says at one leaf of the stretch. -/
theorem bsays_leaf (W g o m cap t:Nat) (x b e:Int) (pv nt:Value) (p:List UInt8) (w:World) (hW:WalkAt w W x (.slice (some ⟨g,o,none⟩) m cap) pv nt) (hx0:0 ≤ x) (hb:b = x+t) (he:b < e) (hem:e ≤ 9223372036854775808) (he2:e - b < 2)
 (htm:t < m) (hc:m ≤ cap) (hcm:cap ≤ 9223372036854775807) (hp:p.length = 32) (hr:w.rangeAt g (o+t * 32) (bytesV p)) (hgW:g ≠ W) :
 Calls Tryz.prog 112 #[.pointer (some ⟨W,0,none⟩),.agg #[.int .u64 b,.int .u64 e]] w fun ev w' => ev = .returned (hv p) ∧ Below w.heap.size w w':=by
 have c0:w.cell? ⟨W,0,none⟩ = some (.int .u64 x):=by rw [cell_of_row w W 0 _ 197 (0,0) hW];rfl
 have c2:w.cell? ⟨W,1,none⟩ = some (.slice (some ⟨g,o,none⟩) m cap):=by rw [cell_of_row w W 1 _ 197 (0,0) hW];rfl
 have hWl:W < w.heap.size:=(Array.getElem?_eq_some_iff.1 hW).1
 have hd:decide (e ≤ x) = false:=by simp;omega
 have hd2:decide (x+(m:Int) ≤ b) = false:=by simp;omega
 have hm8:(m:Int) < 18446744073709551616:=by omega
 have hm9:x+(m:Int) < 18446744073709551616:=by omega
 have hbt:b - x = (t:Int):=by omega
 have hb0:0 ≤ b:=by omega
 have hxb:x ≤ b:=by omega
 have hwt:IntKind.u64.wrap (t:Int) = (t:Int):=IntWalk.u64_in _ (by omega)
 have hbe:b ≤ e:=by omega
 have htm':(t:Int) < m:=by omega
 have hgl:=rangeAt_lt hr (by intro q;have:=congrArg List.length q;rw [bytesV_length,hp] at this;simp at this)
 obtain ⟨ps,hps⟩:∃ ps,bytesV p = ps:=⟨_,rfl⟩
 have kr:Hid (∀ w',Below w.heap.size w w' → w'.rangeAt g (o+t * 32) ps):=hid (fun w' hb => by rw [← hps];exact rangeAt_below hb hr hgl)
 have hpl:ps.length = 32:=by rw [← hps,bytesV_length,hp]
 have HI:=hid (show (Tryz.prog.info? 39).map (·.size) = some ps.length by rw [hpl];kernel_rfl)
 have HI2:=hid (show (Tryz.prog.info? 39).map (·.size) = some ps.toArray.size by simp only [List.size_toArray,hpl];kernel_rfl)
 have HO:=hid (show ps.toArray.all (·.oneCell') = true by rw [← hps];exact bytesV_all _)
 have HZ:=hid (show ps.toArray.size = 32 by simp [hpl])
 have HPS:=hid hps
 have HHH:=hid (And.intro hb (And.intro he (And.intro he2 htm)))
 have hbx:(Tryz.prog.info? 84).map (·.size) = some 2:=by kernel_rfl
 obtain ⟨wv,hwv⟩:∃ wv,(w.alloc (.cells #[.int .u64 b,.int .u64 e] 84)).alloc (.cells (List.replicate 32 (Value.int .u8 0)).toArray 39) = wv:=⟨_,rfl⟩
 have hBv:Below w.heap.size w wv:=by rw [← hwv];exact ((Below.refl _ _).alloc (Nat.le_refl _) _).alloc (by simp) _
 have hsv:wv.heap.size = w.heap.size+1+1:=by rw [← hwv];simp
 have hzv:wv.heap[w.heap.size+1]? = some (.cells (List.replicate 32 (Value.int .u8 0)).toArray 39 (0,0)):=by rw [← hwv];exact heap_at _ _ _ (by simp)
 have hsp:wv.heap[w.heap.size]? = some (.cells #[.int .u64 b,.int .u64 e] 84 (0,0)):=by rw [← hwv,((Below.refl _ (w.alloc (.cells #[.int .u64 b,.int .u64 e] 84))).alloc (Nat.le_refl _) _).block _ (by simp)];exact heap_at _ _ _ rfl
 have s0:wv.cell? ⟨w.heap.size,0,none⟩ = some (.int .u64 b):=by rw [cell_of_row wv w.heap.size 0 _ 84 (0,0) hsp];rfl
 have s1:wv.cell? ⟨w.heap.size,1,none⟩ = some (.int .u64 e):=by rw [cell_of_row wv w.heap.size 1 _ 84 (0,0) hsp];rfl
 have v0:=cell_below hBv c0 hWl
 have v2:=cell_below hBv c2 hWl
 have HBv:=hid hBv
 have HWV:=hid (show (w.alloc (.cells #[.int .u64 b,.int .u64 e] 84)).alloc (.cells (List.replicate 32 (Value.int .u8 0)).toArray 39) = wv from hwv)
 simp only [List.replicate,List.toArray] at HWV
 have HSV:=hid hsv
 have HZV:=hid hzv
 clear hW hr hp hps hpl hb he he2 htm hwv hBv hsv hzv hsp c0 c2
 have hWv:W < wv.heap.size:=by have:=HBv.out.size;omega
 have hsw:w.heap.size < wv.heap.size:=by have:=HSV.out;omega
 go_enter Tryz.func112,Tryz.ntmps112
 go_wp2_with fail
 rw [HWV.out]
 go_quiet (fail)
 obtain ⟨wq,hwq⟩:∃ wq,wv.drewN nq = wq:=⟨_,rfl⟩
 have q0:wq.cell? ⟨W,0,none⟩ = some (.int .u64 x):=by rw [← hwq];exact v0
 have q1:wq.cell? ⟨W,1,none⟩ = some (.slice (some ⟨g,o,none⟩) m cap):=by rw [← hwq];exact v2
 have q2:wq.cell? ⟨w.heap.size,0,none⟩ = some (.int .u64 b):=by rw [← hwq];exact s0
 have q3:wq.cell? ⟨w.heap.size,1,none⟩ = some (.int .u64 e):=by rw [← hwq];exact s1
 have HBq:Hid (Below w.heap.size w wq):=hid (by rw [← hwq];exact below_drewN HBv.out)
 have HZq:Hid (wq.heap[w.heap.size+1]? = some (.cells (List.replicate 32 (Value.int .u8 0)).toArray 39 (0,0))):=hid (by rw [← hwq];exact HZV.out)
 have hWq:W < wq.heap.size:=by rw [← hwq];exact hWv
 have hsq:w.heap.size < wq.heap.size:=by rw [← hwq];exact hsw
 rw [hwq]
 clear hwq v0 v2 s0 s1
 go_wp2_with fail
 refine (split_no _ _ (by omega) (by omega) (.inl HHH.out.2.2.1)).mono ?_
 rintro ev w6 ⟨rfl,rfl⟩
 go_wp2_with fail
 go_still_tail 13,(by kernel_rfl)
 refine wpStill_load_mid rfl 39 _ rfl g (o+t * 32) rfl ps _ (kr.out _ (below_drewN (n:=1) HBq.out)) Tryz.underlying39 rfl HI.out ?_
 refine wpStill_nil ?_
 go_wp2_with (refine wpList_store_row rfl 39 _ _ rfl (w.heap.size+1) ps.toArray rfl rfl 39 _ HZq.out HI2.out (by rw [HZ.out];simp) HO.out ?_)
 refine bodyPost_ret (v:=.agg ps.toArray) (results_cell_row rfl _ _ (w.heap.size+1) 39 ps.toArray (0,0) _ rfl (setRow_heap _ _ _ _ _ _ HZq.out) Tryz.underlying39 rfl HI2.out) rfl ⟨by rw [hv,HPS.out],?_⟩
 exact below_setRow (below_drewN (n:=1) HBq.out) _ _ (by omega)
end Go.Proofs.YtpdkpdpkggepcaaGreatDoor
