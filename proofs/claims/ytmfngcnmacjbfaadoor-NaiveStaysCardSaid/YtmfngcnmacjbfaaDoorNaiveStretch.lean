/- cartularylaw08.stretches: hashes that are what Tree says of stretches: answers true. Condition: the package-level variables read as listed. -/
import Derived.Test.YtmfngcnmacjbfaaDoorNaiveHashes
import Derived.Test.YtmfngcnmacjbfaaDoorSameHashes
import Derived.Deep.MidRow
namespace Go.Proofs.YtmfngcnmacjbfaaDoor
open Go.ChangeShapes Go.WideShapes Go.ChangeAt Go.RowKit
set_option linter.unusedVariables false
set_option maxRecDepth 100000 in
set_option maxHeartbeats 8000000 in
theorem stretches_any (a : Nat → Addr) (B base b0 : Nat) (v : Value) (L : List ByteArray) (sz : Int) (l : List (Int × Int)) (A : Option Addr) (m c : Nat) (sv : Value) (w : World) (hE : Env B a w) (h : LogAt base b0 v L w) (hh : HIn w A m c (treesB L l)) (hsv : Rd w sv 2 m (spanCells l)) (hl : SpansIn l sz) (h1 : sz ≤ (L.length : Int)) (hlm : m ≤ 1000) :
    Calls Tryd.prog 50 #[.pointer (some ⟨b0, 0, none⟩), .slice A m c, sv] w fun ev w' => ev = .returned (.bool true) ∧ Below w.heap.size w w' := by
  have HE := Lib.hid hE
  have HLg := Lib.hid h
  have HH := Lib.hid hh
  have hml : l.length = m := by have := hh.2.1; rwa [treesB_len] at this
  have HM := Lib.hid hml
  obtain ⟨_, As, cs, rfl, hsr⟩ := hsv
  have HSR := Lib.hid hsr
  have HLI := Lib.hid hl
  have HS1 := Lib.hid h1
  have hbx : (Tryd.prog.info? 50).map (·.size) = some 2 := by kernel_rfl
  clear hE h hh hml hsr hl h1
  go_enter Tryd.func50, Tryd.ntmps50
  go_wp2
  go_loopw [7] (fun i wr => ∃ k : Nat, k ≤ m ∧ i = .int .i64 k ∧ Hid (Gr w wr)) (fun i _ => m - (intOf i).toNat)
  case atStart => exact ⟨0, Nat.zero_le _, rfl, Lib.hid (Gr.refl _)⟩
  case round =>
    obtain ⟨k, hk, rfl, HG⟩ := hrel
    by_cases hlt : k < m
    · obtain ⟨g, rfl, hcc⟩ : ∃ g, As = some ⟨g, 0, none⟩ ∧ ∀ j u, (spanCells l)[j]? = some u → w.cell? ⟨g, j, none⟩ = some u := by
        rcases HSR.out with q | q
        · omega
        · exact q
      obtain ⟨⟨pb, pe⟩, hp⟩ : ∃ p, l[k]? = some p := ⟨_, List.getElem?_eq_getElem (by have := HM.out; omega)⟩
      have hat := spanCells_at l k (pb, pe) hp
      have s0 := cell_below HG.out (hcc _ _ hat.1) (block_of_cell (hcc _ _ hat.1))
      have s1 := cell_below HG.out (hcc _ _ hat.2) (block_of_cell (hcc _ _ hat.2))
      have hin := HLI.out (pb, pe) (List.mem_of_getElem? hp)
      simp only at hin s0 s1
      have hxk : (treesB L l)[k]? = some (treeB L pb pe) := by unfold treesB; rw [List.getElem?_map, hp]; rfl
      obtain ⟨x, hx⟩ : ∃ x, treeB L pb pe = x := ⟨_, rfl⟩
      rw [hx] at hxk
      have hxl : x.length = 32 := by rw [← hx]; exact treeB_len L pb pe
      obtain ⟨g2, o2, rfl, gl2, r2, _⟩ := HH.out.row hxk
      obtain ⟨vx, evx, EX, ZX, IX, OX⟩ := row_of x hxl
      obtain ⟨px, hpx⟩ : ∃ px, bytesV x = px := ⟨_, rfl⟩
      have IP := Lib.hid (show (Tryd.prog.info? 29).map (·.size) = some px.length by rw [← hpx, bytesV_length, hxl]; kernel_rfl)
      have hq : ∀ w, (Op.equalIn 10000 29 (.agg vx) (.agg px.toArray)).run Tryd.prog w = .ok true w := fun w => by rw [eq_hash x x hxl hxl vx _ evx (by rw [hv, hpx]) w]; simp
      rw [hpx] at r2
      have HR2 := Lib.hid (And.intro gl2 r2)
      have HTREE : Hid (∀ w, Env B a w → LogAt base b0 v L w → Calls Tryd.prog 26 #[.pointer (some ⟨b0, 0, none⟩), .agg #[.int .u64 pb, .int .u64 pe]] w fun ev w' => ev = .returned (.tuple #[.agg vx, .nilIface]) ∧ Below w.heap.size w w') := Lib.hid (fun w h1 h2 => by
        have := tree_ok a B base b0 v L pb pe w h1 h2 hin.1 (by omega) (by have := HS1.out; omega)
        rw [hx, evx] at this; exact this)
      have i1 : (k : Int) < m := by omega
      have i0' : (0 : Int) ≤ k := by omega
      have gW : Gr w wr := HG.out
      have gW' : Below w.heap.size w wr := HG.out
      clear hp hat hcc hin hx hxl evx hxk hpx gl2 r2 gW
      go_wp2_with fail
      refine (HTREE.out wr (HE.out.step gW') (HLg.out.below gW')).mono ?_
      rintro ev w1 ⟨rfl, b1⟩
      go_upto_region 7 with (refine wpList_store_row_any rfl 29 _ _ rfl w1.heap.size vx rfl rfl 29 _ (heap_at _ _ _ rfl) IX.out (by rw [ZX.out]; rfl) OX.out ?_; intro w2 hbN hgN hsN; have b2 : Below w1.heap.size w1 w2 := ((Below.refl _ w1).alloc (Nat.le_refl _) _).trans (hbN.to_below (by simp) (fun k hk q => by omega)); have R2 := Lib.hid hgN; clear hbN hgN hsN)
      have KX : Hid (∀ w', Gr w2 w' → w'.heap[w1.heap.size]? = some (.cells vx 29 (0, 0))) := Lib.hid (fun w' h => (h.block _ (Array.getElem?_eq_some_iff.1 R2.out).1).trans R2.out)
      have KP : Hid (∀ w', Gr w2 w' → w'.rangeAt g2 (o2 + k * 32) px) := Lib.hid (fun w' h => rangeAt_below ((show Gr w w2 from (by repeat (first | exact Gr.refl _ | (refine Gr.step ?_ (by assumption)) | (refine Gr.alloc ?_ _) | (refine Gr.drew ?_)))).trans (Below.mono h (show Gr w w2 from (by repeat (first | exact Gr.refl _ | (refine Gr.step ?_ (by assumption)) | (refine Gr.alloc ?_ _) | (refine Gr.drew ?_)))).size)) HR2.out.2 HR2.out.1)
      clear s0 s1
      refine wp_region_held_drew (S := Gr w2) (by kernel_rfl) ((Gr.refl _).drew) (fun hHeld => ?_)
      refine wpAnyH_take (i := 0) (v := ?tv1) rfl (by kernel_rfl) (by kernel_rfl) (by kernel_rfl) (fun _ _ _ h => h) (Or.inl ⟨by rfl, ?ty1⟩) (by assumption) ?tr1
      case ty1 => (intro w hSw; (try dsimp only at hSw); go_simp; (try with_reducible rfl))
      try simp only [Act.put, List.getElem_toArray, List.getElem_cons_zero, List.setIfInBounds_toArray, List.set_cons_zero, List.set_cons_succ]
      refine wpAnyH_take (i := 1) (v := ?tv2) rfl (by kernel_rfl) (by kernel_rfl) (by kernel_rfl) (fun _ _ _ h => h) (Or.inl ⟨by rfl, ?ty2⟩) (by assumption) ?tr2
      case ty2 => (intro w hSw; (try dsimp only at hSw); go_simp; (try with_reducible rfl))
      try simp only [Act.put, List.getElem_toArray, List.getElem_cons_zero, List.getElem_cons_succ, List.setIfInBounds_toArray, List.set_cons_zero, List.set_cons_succ]
      refine wpAnyH_take (i := 2) (v := ?tv3) rfl (by kernel_rfl) (by kernel_rfl) (by kernel_rfl) (fun _ _ _ h => h) (Or.inl ⟨by rfl, ?ty3⟩) (by assumption) ?tr3
      case ty3 => (intro w hSw; (try dsimp only at hSw); go_simp; (try with_reducible rfl))
      try simp only [Act.put, List.getElem_toArray, List.getElem_cons_zero, List.getElem_cons_succ, List.setIfInBounds_toArray, List.set_cons_zero, List.set_cons_succ]
      refine wpAnyH_take (i := 3) (v := _) rfl (by kernel_rfl) (by kernel_rfl) (by kernel_rfl) (fun _ _ _ h => h) (yieldsIf_load_row (by rfl) 29 _ (by rfl) _ (by rfl) 29 vx (0, 0) _ (fun w h => KX.out w h) Tryd.underlying29 rfl IX.out) (by assumption) ?_
      try simp only [Act.put, List.getElem_toArray, List.getElem_cons_zero, List.getElem_cons_succ, List.setIfInBounds_toArray, List.set_cons_zero, List.set_cons_succ]
      refine wpAnyH_take (i := 4) (v := ?tv5) rfl (by kernel_rfl) (by kernel_rfl) (by kernel_rfl) (fun _ _ _ h => h) (Or.inl ⟨by rfl, ?ty5⟩) (by assumption) ?tr5
      case ty5 => (intro w hSw; (try dsimp only at hSw); go_simp; (try with_reducible rfl))
      try simp only [Act.put, List.getElem_toArray, List.getElem_cons_zero, List.getElem_cons_succ, List.setIfInBounds_toArray, List.set_cons_zero, List.set_cons_succ]
      refine wpAnyH_take (i := 5) (v := ?tv6) rfl (by kernel_rfl) (by kernel_rfl) (by kernel_rfl) (fun _ _ _ h => h) (Or.inl ⟨by rfl, ?ty6⟩) (by assumption) ?tr6
      case ty6 => (intro w hSw; (try dsimp only at hSw); go_simp; (try with_reducible rfl))
      try simp only [Act.put, List.getElem_toArray, List.getElem_cons_zero, List.getElem_cons_succ, List.setIfInBounds_toArray, List.set_cons_zero, List.set_cons_succ]
      refine wpAnyH_take (i := 6) (v := ?tv7) rfl (by kernel_rfl) (by kernel_rfl) (by kernel_rfl) (fun _ _ _ h => h) (Or.inl ⟨by rfl, ?ty7⟩) (by assumption) ?tr7
      case ty7 => (intro w hSw; (try dsimp only at hSw); go_simp; (try with_reducible rfl))
      try simp only [Act.put, List.getElem_toArray, List.getElem_cons_zero, List.getElem_cons_succ, List.setIfInBounds_toArray, List.set_cons_zero, List.set_cons_succ]
      refine wpAnyH_take (i := 7) (v := _) rfl (by kernel_rfl) (by kernel_rfl) (by kernel_rfl) (fun _ _ _ h => h) (yieldsIf_load_mid (by rfl) 29 _ (by rfl) g2 (o2 + k * 32) (by first | rfl | simp) px _ (fun w h => KP.out w h) Tryd.underlying29 (by rfl) IP.out) (by assumption) ?_
      try simp only [Act.put, List.getElem_toArray, List.getElem_cons_zero, List.getElem_cons_succ, List.setIfInBounds_toArray, List.set_cons_zero, List.set_cons_succ]
      refine wpAnyH_take (i := 8) (v := ?tv9) rfl (by kernel_rfl) (by kernel_rfl) (by kernel_rfl) (fun _ _ _ h => h) (Or.inl ⟨by rfl, ?ty9⟩) (by assumption) ?tr9
      case ty9 => (intro w hSw; (try dsimp only at hSw); go_simp; (try with_reducible rfl))
      try simp only [Act.put, List.getElem_toArray, List.getElem_cons_zero, List.getElem_cons_succ, List.setIfInBounds_toArray, List.set_cons_zero, List.set_cons_succ]
      refine wpAnyH_take (i := 9) (v := ?tv10) rfl (by kernel_rfl) (by kernel_rfl) (by kernel_rfl) (fun _ _ _ h => h) (Or.inl ⟨by rfl, ?ty10⟩) (by assumption) ?tr10
      case ty10 => (intro w hSw; (try dsimp only at hSw); go_simp; (try with_reducible rfl))
      try simp only [Act.put, List.getElem_toArray, List.getElem_cons_zero, List.getElem_cons_succ, List.setIfInBounds_toArray, List.set_cons_zero, List.set_cons_succ]
      refine wpAnyH_done (by kernel_rfl) ?_ _
      go_wp2
      go_roundw
      case rel => exact ⟨k + 1, by omega, by go_num, Lib.hid (show Gr w _ from (by repeat (first | exact Gr.refl _ | (refine Gr.step ?_ (by assumption)) | (refine Gr.alloc ?_ _) | (refine Gr.drew ?_))))⟩
      case measure => simp [intOf]; omega
    · obtain rfl : k = m := by omega
      go_wp2
      go_ret
      exact ⟨rfl, HG.out⟩
end Go.Proofs.YtmfngcnmacjbfaaDoor
