/- cartularylaw01.Book: keepCoord: one list more in the book. No condition. -/
import Derived.Test.YtnddjadjmgfgnaaGreatDoorRows
import Derived.Test.YtnddjadjmgfgnaaGreatDoorBookMem
import Derived.OwnWalk
import Derived.Deep.RegionLaw
import Derived.Deep.AppendLies
import Derived.Outline
namespace Go.Proofs.YtnddjadjmgfgnaaGreatDoor
open Go.ChangeShapes Go.WideShapes Go.ChangeAt Go.RowKit
set_option linter.unusedVariables false
theorem info_heldCoord : (Tryz.prog.info? 93).map (fun i => (i.zero, i.size, i.bytes)) = some (some (.agg #[.slice none 0 0, .slice none 0 0, .int .i64 0]), 3, 56) := by kernel_rfl
/-- a book with lists of this one kind -/
structure BookCoord (K : Nat) (c : Int) (rv : Value) (w : World) : Prop where
  num : w.cell? ⟨K, 0, none⟩ = some (.int .i64 c)
  own : w.cell? ⟨K, 6, none⟩ = some rv
  nil : ∀ i, 1 ≤ i → i ≤ 16 → i ≠ 6 → w.cell? ⟨K, i, none⟩ = some (.slice none 0 0)
  free : ∀ i : Nat, w.frozen? ⟨K, i, none⟩ = false
theorem BookCoord.block {K : Nat} {c : Int} {rv : Value} {w w' : World} (h : BookCoord K c rv w) (hb : w'.heap[K]? = w.heap[K]?) : BookCoord K c rv w' :=
  ⟨cell_block hb h.num, cell_block hb h.own, fun i a b d => cell_block hb (h.nil i a b d), fun i => frozen_block hb (h.free i)⟩
theorem BookCoord.set {K : Nat} {c : Int} {rv : Value} {w : World} (h : BookCoord K c rv w) (u : Value) : BookCoord K c u (w.setCell ⟨K, 6, none⟩ u) :=
  ⟨by rw [World.cell?_setCell_other _ _ _ _ (by intro q; injection q with a b; omega)]; exact h.num, World.cell?_setCell_same' _ _ _ (by rw [h.own]; rfl),
    fun i a b d => by rw [World.cell?_setCell_other _ _ _ _ (by intro q; injection q with a b; omega)]; exact h.nil i a b d, fun i => by rw [World.frozen?_setCell]; exact h.free i⟩
theorem BookCoord.count {K : Nat} {c d : Int} {rv : Value} {w : World} (h : BookCoord K c rv w) : BookCoord K d rv (w.setCell ⟨K, 0, none⟩ (.int .i64 d)) :=
  ⟨World.cell?_setCell_same' _ _ _ (by rw [h.num]; rfl), by rw [World.cell?_setCell_other _ _ _ _ (by intro q; injection q with a b; omega)]; exact h.own,
    fun i a b d => by rw [World.cell?_setCell_other _ _ _ _ (by intro q; injection q with a b; omega)]; exact h.nil i a b d, fun i => by rw [World.frozen?_setCell]; exact h.free i⟩
set_option maxRecDepth 100000 in
set_option maxHeartbeats 2000000 in
theorem keep_coord (base K m : Nat) (c : Int) (rA : Option Addr) (rn rc : Nat) (rows : List Value) (A : Option Addr) (n cap : Nat) (w : World) (hB : BookCoord K c (.slice rA rn rc) w) (hown : w.ownsRow base 93 3 (.slice rA rn rc) m rows) (hne : (Value.slice rA rn rc).ownBlock ≠ some K)
    (hm : m ≤ 1000000) (hc0 : 0 ≤ c) (hc1 : c < 1000000) (hbase : base ≤ w.heap.size) :
    Calls Tryz.prog 28 #[.pointer (some ⟨K, 0, none⟩), .slice A n cap] w fun ev w' => ev = .returned (.tuple #[]) ∧ ∃ g cap2, BookCoord K (c + 1) (.slice (some ⟨g, 0, none⟩) (m + 1) cap2) w' ∧
      w'.ownsRow base 93 3 (.slice (some ⟨g, 0, none⟩) (m + 1) cap2) (m + 1) (rows ++ [.slice A n cap, .slice none 0 0, .int .i64 (c + 1)]) ∧ Coll K w w' (.slice rA rn rc) (.slice (some ⟨g, 0, none⟩) (m + 1) cap2) := by
  obtain ⟨i0, hi, hz0, hz1, hz2⟩ := info_parts info_heldCoord
  have k0 := hB.num
  have kj := hB.own
  have fz0 := hB.free 0
  have fzj := hB.free 6
  have hKs := block_of_cell k0
  have HBB := Lib.hid hB
  have hb2 := Lib.hid (hB.count (d := c + 1))
  have ho2 := own_setCell (o := 0) hown (fun q => hne q.symm) (.int .i64 (c + 1))
  have HNE := Lib.hid hne
  clear hB hne
  go_enter Tryz.func28, Tryz.ntmps28
  go_wp2_with fail
  obtain ⟨W, hW⟩ : ∃ W, w.setCell ⟨K, 0, none⟩ (.int .i64 (c + 1)) = W := ⟨_, rfl⟩
  have hws : w.heap.size = W.heap.size := by rw [← hW]; simp
  rw [hW] at hb2 ho2 ⊢
  have q0 := hb2.out.num
  have qj := hb2.out.own
  have f0 := hb2.out.free 0
  have fj := hb2.out.free 6
  have hKW := block_of_cell q0
  have HWK : Hid (∀ b, b ≠ K → W.heap[b]? = w.heap[b]?) := Lib.hid (fun b hb => by rw [← hW]; exact Below.heap_setCell w ⟨K, 0, none⟩ _ b hb)
  have HWO : Hid (W.os = w.os ∧ W.tape = w.tape ∧ W.output = w.output) := Lib.hid (by rw [← hW]; exact ⟨rfl, rfl, rfl⟩)
  have hbW : base ≤ W.heap.size := by omega
  clear hW k0 kj fz0 fzj hown hKs
  go_region_law (first | (refine step_append_lies _ rfl _ _ 40 rfl base 93 i0 (.agg #[.slice none 0 0, .slice none 0 0, .int .i64 0]) 3 56 Tryz.underlying40 hi hz0 hz1 hz2 rfl (by decide) (.slice rA rn rc) m rows rfl (ho2.alloc _) ⟨W.heap.size, 0, none⟩ 1 1 [.slice A n cap, .slice none 0 0, .int .i64 (c + 1)] rfl rfl (news_new _ _) (by simp [Value.oneCell']) (by decide) (by unfold maxLen; omega) (by omega) (by simp; omega) _ rfl ?_; intro g3 cap3 w3 hown3 hgrow3 hat3 hlt3; have qj3 := cell_grown hgrow3 (cell_alloc qj _) (fun q => HNE.out q.symm); have fj3 : w3.frozen? ⟨K, 6, none⟩ = false := frozen_block (hgrow3.block K (by simp; omega) (fun q => HNE.out q.symm)) (frozen_alloc fj hKW _)))
  all_goals
    have hKb : w3.heap[K]? = W.heap[K]? := (hgrow3.block K (by simp; omega) (fun q => HNE.out q.symm)).trans (((Below.refl _ W).alloc (Nat.le_refl _) _).block K hKW)
    have hgk : g3 ≠ K := by
      rcases hat3 with q | q
      · intro e; subst e; exact HNE.out q
      · intro e; simp at q; omega
    have HB3 := Lib.hid ((hb2.out.block hKb).set (.slice (some ⟨g3, 0, none⟩) (m + 1) cap3))
    have HO3 := Lib.hid (own_setCell (o := 6) hown3 (b := K) (by intro q; simp [Value.ownBlock] at q; omega) (.slice (some ⟨g3, 0, none⟩) (m + 1) cap3))
    have HC3 : Hid (Coll K w (w3.setCell ⟨K, 6, none⟩ (.slice (some ⟨g3, 0, none⟩) (m + 1) cap3)) (.slice rA rn rc) (.slice (some ⟨g3, 0, none⟩) (m + 1) cap3)) := Lib.hid
      ⟨hgrow3.os.trans HWO.out.1, hgrow3.tape.trans HWO.out.2.1, hgrow3.output.trans HWO.out.2.2, by have := hgrow3.size; simp at this ⊢; omega,
        fun b hb hbk hbr => (Below.heap_setCell w3 ⟨K, 6, none⟩ _ b hbk).trans ((hgrow3.block b (by simp; omega) hbr).trans ((((Below.refl _ W).alloc (Nat.le_refl _) _).block b (by omega)).trans (HWK.out b hbk))),
        fun b hb => by
          obtain rfl : g3 = b := by simpa [Value.ownBlock] using hb
          rcases hat3 with q | q
          · exact .inl q
          · right; simp at q; omega⟩
    clear hown3 hgrow3 hat3 hb2 ho2
    go_wp2
    go_end0
    exact ⟨rfl, g3, cap3, HB3.out, HO3.out, HC3.out⟩
theorem book_coord (base K m : Nat) (c : Int) (rA : Option Addr) (rn rc : Nat) (rows : List Value) (A : Option Addr) (n cap : Nat) (w : World) (hB : BookCoord K c (.slice rA rn rc) w) (hown : w.ownsRow base 93 3 (.slice rA rn rc) m rows) (hne : (Value.slice rA rn rc).ownBlock ≠ some K)
    (hm : m ≤ 1000000) (hc0 : 0 ≤ c) (hc1 : c < 1000000) (hbase : base ≤ w.heap.size) :
    Calls Tryz.prog 11 #[.pointer (some ⟨K, 0, none⟩), .slice A n cap] w fun ev w' => ev = .returned (.tuple #[]) ∧ ∃ g cap2, BookCoord K (c + 1) (.slice (some ⟨g, 0, none⟩) (m + 1) cap2) w' ∧
      w'.ownsRow base 93 3 (.slice (some ⟨g, 0, none⟩) (m + 1) cap2) (m + 1) (rows ++ [.slice A n cap, .slice none 0 0, .int .i64 (c + 1)]) ∧ Coll K w w' (.slice rA rn rc) (.slice (some ⟨g, 0, none⟩) (m + 1) cap2) := by
  go_enter Tryz.func11, Tryz.ntmps11
  go_wp2_with fail
  refine (keep_coord base K m c rA rn rc rows A n cap _ hB hown hne hm hc0 hc1 hbase).mono ?_
  rintro ev w1 ⟨rfl, h⟩
  go_wp2
  go_end0
  exact ⟨rfl, h⟩
end Go.Proofs.YtnddjadjmgfgnaaGreatDoor
