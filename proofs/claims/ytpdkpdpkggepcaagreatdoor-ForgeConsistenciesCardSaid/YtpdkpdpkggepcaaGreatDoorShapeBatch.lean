/- shape.Batch, what it answers: the stretches of a batch proof. Condition: the package-level variables read as listed. -/
import Derived.Test.YtpdkpdpkggepcaaGreatDoorBatchPlain
import Derived.ArgAppend
import Derived.Deep.LoopGhost
import Derived.Outline
namespace Go.Proofs.YtpdkpdpkggepcaaGreatDoor
open Go.ChangeShapes Go.WideShapes Go.ChangeAt Go.RowKit
set_option maxRecDepth 100000
set_option maxHeartbeats 2000000
set_option linter.unusedVariables false
structure BRel (base:Nat) (x y:Int) (want:List (Int × Int)) (w:World) (k:Nat) (vl t:Value) (st:List (Nat × Int × Int)) (out:List (Int × Int)) (g cap:Nat) (wr:World):Prop where
 tv:t = .slice (some ⟨g,0,none⟩) st.length cap
 cap:st.length ≤ cap
 cells:∀ j u,(stkCells st)[j]? = some u → wr.cell? ⟨g,j,none⟩ = some u
 own:wr.ownsRow base 84 2 vl out.length (spanCells out)
 gne:some g ≠ vl.ownBlock
 glt:g < wr.heap.size
 below:Below base w wr
 stk:Stk st
 eq:want = out ++ flat x y st
 wtk:wt st ≤ k
theorem batch_ok (x y sz:Int) (w:World) (h0:0 ≤ x) (h1:x < y) (h2:y ≤ sz) (h3:sz ≤ 9223372036854775808) :
 Calls Tryz.prog 72 #[.int .u64 x,.int .u64 y,.int .u64 sz] w (ListPost 84 2 w (batchL 64 x y 0 sz).length (spanCells (batchL 64 x y 0 sz))):=by
 obtain ⟨i0,hi,hz0,hz1,hz2⟩:=info_parts info_span
 have hlen:=batchL_len 64 x y 0 sz (by omega) (by rw [pow2_64];omega)
 obtain ⟨want,hwant⟩:∃ L,batchL 64 x y 0 sz = L:=⟨_,rfl⟩
 have HW:=Lib.hid hwant
 rw [hwant] at hlen ⊢
 clear hwant
 go_enter Tryz.func72,Tryz.ntmps72
 go_wp2
 go_loopg [8,9] (2 * sz - 1).toNat (fun k vl t wr => ∃ st out g cap,BRel w.heap.size x y want w k vl t st out g cap wr)
 case atStart =>
  refine ⟨[(64,0,sz)],[],w.heap.size,1,rfl,by simp,?_,World.ownsRow_nil _ _ _ _,by simp [Value.ownBlock],by simp,(Below.refl _ _).alloc (Nat.le_refl _) _,?_,?_,?_⟩
  ·intro j u hu
   exact cell_new _ _ j u (by simpa [stkCells,spanCells] using hu)
  ·exact ⟨Nat.le_refl _,by simp,by simp only;omega,h3,by simp only;rw [pow2_64];omega,trivial⟩
  ·simp [flat,HW.out]
  ·simp [wt]
 case round =>
  obtain ⟨st,out,g,cap,hR⟩:=hrel
  have hbase:=hR.below.size
  cases st with
  | nil =>
   obtain rfl:=hR.tv
   have HO:=Lib.hid (show want = out by rw [hR.eq];simp [flat])
   have hown:=own_congr hR.own (n':=want.length) (xs':=spanCells want) (by rw [HO.out]) (by rw [HO.out])
   have hbw:=hR.below
   clear hR
   go_wp2
   refine bodyPost_ret (v:=.tuple #[_,.nilIface]) (by simp [results,Tryz.results72,go_sem]) rfl ⟨_,rfl,hown,hbw⟩
  | cons s rest =>
   obtain ⟨f,b,e⟩:=s
   obtain ⟨hf64,hb0,hbe,he63,hfu,hup⟩:=hR.stk
   simp only at hf64 hb0 hbe he63 hfu hup
   have hst:=Stk.len hR.stk
   obtain ⟨m,hm⟩:∃ m,rest.length = m:=⟨_,rfl⟩
   have ht:=hR.tv
   rw [List.length_cons,hm] at ht hst
   subst ht
   have hcap:=hR.cap
   rw [List.length_cons,hm] at hcap
   have k0:=hR.cells _ _ (stkCells_top0 (f,b,e) rest)
   have k1:=hR.cells _ _ (stkCells_top1 (f,b,e) rest)
   rw [hm] at k0 k1
   simp only at k0 k1
   have hgl:=hR.glt
   have HM:=Lib.hid hm
   clear hm
   have holen : out.length ≤ 129 := by have := hR.eq; have : want.length = out.length + (flat x y ((f, b, e) :: rest)).length := by rw [this]; simp
                                       omega
   have HR:=Lib.hid hR
   clear hR hup
   by_cases hA:e ≤ x ∨ y ≤ b
   ·by_cases hA1:e ≤ x
    all_goals
     have hwtk:Hid (wt rest < gk):=Lib.hid (by have:=HR.out.wtk;simp only [wt] at this;omega)
     have hown:=HR.out.own
     go_wp2_with (at_builtin;refine wpList_append_lies _ rfl _ _ 64 rfl w.heap.size 84 i0 (.agg #[.int .u64 0,.int .u64 0]) 2 16 Tryz.underlying64 hi hz0 hz1 hz2 rfl (by decide) u8 _ _ rfl ((hown.alloc _).alloc _) ⟨wr.heap.size+1,0,none⟩ 1 1 [.int .u64 b,.int .u64 e] rfl rfl (by rw [← World.size_alloc];exact news_new #[.int .u64 b,.int .u64 e] _) (by simp [Value.oneCell']) (by decide) (by unfold maxLen;omega) (by omega) (by simp;omega) _ rfl ?_;intro g3 cap3 w3 hown3 hgrow3 hat3 hlt3)
     go_roundg (wt rest)
     case measure => exact hwtk.out
     case rel =>
      have h:=HR.out
      have hg3:g3 ≠ g:=by
       rcases hat3 with q | q
       ·intro e;exact h.gne (by rw [q,e])
       ·simp at q;omega
      refine ⟨rest,out ++ [(b,e)],g,m+1,?_,?_,?_,?_,?_,?_,?_,?_,?_,?_⟩
      ·have:=HM.out;simp [this]
      ·have:=HM.out;omega
      ·intro j u hu
       exact hgrow3.cell (cell_alloc (cell_alloc (h.cells j u (stkCells_pop hu)) _) _) h.gne
      ·exact own_congr hown3 (by simp) (by simp [spanCells_append,spanCells_one])
      ·simp [Value.ownBlock];exact fun e => hg3 e.symm
      ·have:=hgrow3.size;simp at this;omega
      ·exact (((h.below.alloc (by omega) _).alloc (by simp;omega) _).grown hgrow3 (by simp;omega) (fun k hk => (h.own.lt k hk).1))
      ·exact h.stk.pop
      ·rw [h.eq];simp [flat,batchL_out hA]
      ·exact Nat.le_refl _
   ·by_cases hC:x ≤ b ∧ e ≤ y
    ·have hA':x < e ∧ b < y:=by omega
     have hwtk:Hid (wt rest < gk):=Lib.hid (by have:=HR.out.wtk;simp only [wt] at this;omega)
     go_wp2
     go_roundg (wt rest)
     case measure => exact hwtk.out
     case rel =>
      have h:=HR.out
      refine ⟨rest,out,g,m+1,?_,?_,?_,h.own.alloc _,h.gne,?_,h.below.alloc (by omega) _,h.stk.pop,?_,Nat.le_refl _⟩
      ·have:=HM.out;simp [this]
      ·have:=HM.out;omega
      ·intro j u hu
       exact cell_alloc (h.cells j u (stkCells_pop hu)) _
      ·simp;omega
      ·rw [h.eq];simp [flat,batchL_in hA hC]
    ·have hA':x < e ∧ b < y:=by omega
     have h2:2 ≤ e - b:=by omega
     cases f with
     | zero => exfalso;rw [pow2_zero] at hfu;omega
     | succ f =>
      have hk:=blwI_bd h2
      have hwtk:Hid (wt ((f,b,b+blwI (e - b)) :: (f,b+blwI (e - b),e) :: rest) < gk):=Lib.hid (by have:=HR.out.wtk;simp only [wt] at this ⊢;omega)
      clear hfu
      by_cases hx:x ≤ b
      all_goals
       go_wp2_with fail
       refine (halves_any _ _ _ hb0 (by omega) he63).mono ?_
       rintro ev w1 ⟨rfl,hb1⟩
       have hsz:=hb1.size
       simp at hsz
       have hgw:g < w1.heap.size:=by omega
       go_wp2_with (at_builtin;refine wpList_append_grows _ rfl _ _ 64 rfl 84 i0 (.agg #[.int .u64 0,.int .u64 0]) 2 16 Tryz.underlying64 hi hz0 hz1 hz2 rfl (by decide) (some ⟨g,0,none⟩) m (m+1) (stkCells rest) rfl (by simp) (by rw [stkCells_len,HM.out]) (fun b' hb' j u hu => by cases hb';rw [addr_add];exact cell_alloc (cell_alloc (cell_alloc (cell_below hb1 (cell_alloc (HR.out.cells j u (stkCells_pop hu)) _) (by simp;omega)) _) _) _) ⟨w1.heap.size+1+1,0,none⟩ 2 2 [.int .u64 (b+blwI (e - b)),.int .u64 e,.int .u64 b,.int .u64 (b+blwI (e - b))] rfl rfl (by rw [← World.size_alloc,← World.size_alloc];exact news_new #[.int .u64 (b+blwI (e - b)),.int .u64 e,.int .u64 b,.int .u64 (b+blwI (e - b))] _) (by simp [Value.oneCell']) (by omega) (by unfold maxLen;omega) (by omega) ?_;intro v3 w3 hown3 hgrow3;obtain ⟨g3,cap3,rfl,hg3,hlt3⟩:=hown3.form (by omega))
       go_roundg (wt ((f,b,b+blwI (e - b)) :: (f,b+blwI (e - b),e) :: rest))
       case measure => exact hwtk.out
       case rel =>
        have h:=HR.out
        simp at hg3
        have hb3:Below w.heap.size w w3:=(((((h.below.alloc hbase _).trans (hb1.mono (by simp;omega))).alloc (by omega) _).alloc (by simp;omega) _).alloc (by simp;omega) _).grown hgrow3 (by simp;omega) (fun k hk => by cases hk)
        refine ⟨(f,b,b+blwI (e - b)) :: (f,b+blwI (e - b),e) :: rest,out,g3,cap3,?_,?_,?_,?_,?_,hlt3,hb3,h.stk.split h2,?_,Nat.le_refl _⟩
        ·have:=HM.out;simp [this]
        ·rcases hown3.2 with ⟨q,_⟩ | ⟨g',cap',cur,q,_,_,q3,_⟩
         ·simp at q
         ·simp at q;have:=HM.out;simp;omega
        ·intro j u hu
         have:=hown3.cells (g:=g3) rfl j u (by rw [stkCells_cons,stkCells_cons] at hu;simpa using hu)
         rwa [addr_add] at this
        ·exact (((own_below (h.own.alloc _) hb1 (Nat.le_refl _)).alloc _).alloc _).alloc _ |>.kept hgrow3 (by cases u8.ownBlock <;> simp)
        ·intro q
         have:=(h.own.lt g3 q.symm).2
         omega
        ·rw [h.eq];simp [flat,batchL_half hA hC]
end Go.Proofs.YtpdkpdpkggepcaaGreatDoor
