import Derived.Test.YtnpblpbcchminaaGreatDoorRows
import Derived.OwnWalk
import Derived.Deep.RegionLaw
import Derived.Deep.AppendLies
import Derived.Outline
import Derived.Test.YtnpblpbcchminaaGreatDoorKbLookHash
/- cartularylaw01.Book: keepHash: one list more in the book. No condition. -/
namespace Go.Proofs.YtnpblpbcchminaaGreatDoor
open Go.ChangeShapes Go.WideShapes Go.ChangeAt Go.RowKit
set_option linter.unusedVariables false
theorem info_heldHash : (Tryz.prog.info? 157).map (fun i => (i.zero, i.size, i.bytes)) = some (some (.agg #[.slice none 0 0, .slice none 0 0, .int .i64 0]), 3, 56) := by kernel_rfl
/-- a book with lists of this one kind -/
structure BookHash (K : Nat) (c : Int) (rv : Value) (w : World) : Prop where
  num : w.cell? ⟨K, 0, none⟩ = some (.int .i64 c)
  own : w.cell? ⟨K, 5, none⟩ = some rv
  nil : ∀ i, 1 ≤ i → i ≤ 16 → i ≠ 5 → w.cell? ⟨K, i, none⟩ = some (.slice none 0 0)
  free : ∀ i : Nat, w.frozen? ⟨K, i, none⟩ = false
theorem BookHash.block {K : Nat} {c : Int} {rv : Value} {w w' : World} (h : BookHash K c rv w) (hb : w'.heap[K]? = w.heap[K]?) : BookHash K c rv w' :=
  ⟨cell_block hb h.num, cell_block hb h.own, fun i a b d => cell_block hb (h.nil i a b d), fun i => frozen_block hb (h.free i)⟩
theorem BookHash.set {K : Nat} {c : Int} {rv : Value} {w : World} (h : BookHash K c rv w) (u : Value) : BookHash K c u (w.setCell ⟨K, 5, none⟩ u) :=
  ⟨by rw [World.cell?_setCell_other _ _ _ _ (by intro q; injection q with a b; omega)]; exact h.num, World.cell?_setCell_same' _ _ _ (by rw [h.own]; rfl),
    fun i a b d => by rw [World.cell?_setCell_other _ _ _ _ (by intro q; injection q with a b; omega)]; exact h.nil i a b d, fun i => by rw [World.frozen?_setCell]; exact h.free i⟩
theorem BookHash.count {K : Nat} {c d : Int} {rv : Value} {w : World} (h : BookHash K c rv w) : BookHash K d rv (w.setCell ⟨K, 0, none⟩ (.int .i64 d)) :=
  ⟨World.cell?_setCell_same' _ _ _ (by rw [h.num]; rfl), by rw [World.cell?_setCell_other _ _ _ _ (by intro q; injection q with a b; omega)]; exact h.own,
    fun i a b d => by rw [World.cell?_setCell_other _ _ _ _ (by intro q; injection q with a b; omega)]; exact h.nil i a b d, fun i => by rw [World.frozen?_setCell]; exact h.free i⟩
set_option maxRecDepth 100000 in
set_option maxHeartbeats 2000000 in
theorem keep_hash (base K m : Nat) (c : Int) (rA : Option Addr) (rn rc : Nat) (rows : List Value) (A : Option Addr) (n cap : Nat) (w : World) (hB : BookHash K c (.slice rA rn rc) w) (hown : w.ownsRow base 157 3 (.slice rA rn rc) m rows) (hne : (Value.slice rA rn rc).ownBlock ≠ some K)
    (hm : m ≤ 1099511627776) (hc0 : 0 ≤ c) (hc1 : c < 1099511627776) (hbase : base ≤ w.heap.size) :
    Calls Tryz.prog 139 #[.pointer (some ⟨K, 0, none⟩), .slice A n cap] w fun ev w' => ev = .returned (.tuple #[]) ∧ ∃ g cap2, BookHash K (c + 1) (.slice (some ⟨g, 0, none⟩) (m + 1) cap2) w' ∧
      w'.ownsRow base 157 3 (.slice (some ⟨g, 0, none⟩) (m + 1) cap2) (m + 1) (rows ++ [.slice A n cap, .slice none 0 0, .int .i64 (c + 1)]) ∧ Coll K w w' (.slice rA rn rc) (.slice (some ⟨g, 0, none⟩) (m + 1) cap2) := by
  obtain ⟨i0, hi, hz0, hz1, hz2⟩ := info_parts info_heldHash
  have k0 := hB.num
  have kj := hB.own
  have fz0 := hB.free 0
  have fzj := hB.free 5
  have hKs := block_of_cell k0
  have HBB := Lib.hid hB
  have hb2 := Lib.hid (hB.count (d := c + 1))
  have ho2 := own_setCell (o := 0) hown (fun q => hne q.symm) (.int .i64 (c + 1))
  have HNE := Lib.hid hne
  clear hB hne
  go_enter Tryz.func139, Tryz.ntmps139
  go_wp2_with fail
  obtain ⟨W, hW⟩ : ∃ W, w.setCell ⟨K, 0, none⟩ (.int .i64 (c + 1)) = W := ⟨_, rfl⟩
  have hws : w.heap.size = W.heap.size := by rw [← hW]; simp
  rw [hW] at hb2 ho2 ⊢
  have q0 := hb2.out.num
  have qj := hb2.out.own
  have f0 := hb2.out.free 0
  have fj := hb2.out.free 5
  have hKW := block_of_cell q0
  have HWK : Hid (∀ b, b ≠ K → W.heap[b]? = w.heap[b]?) := Lib.hid (fun b hb => by rw [← hW]; exact Below.heap_setCell w ⟨K, 0, none⟩ _ b hb)
  have HWO : Hid (W.os = w.os ∧ W.tape = w.tape ∧ W.output = w.output) := Lib.hid (by rw [← hW]; exact ⟨rfl, rfl, rfl⟩)
  have hbW : base ≤ W.heap.size := by omega
  clear hW k0 kj fz0 fzj hown hKs
  go_region_law (first | (refine step_append_lies _ rfl _ _ 56 rfl base 157 i0 (.agg #[.slice none 0 0, .slice none 0 0, .int .i64 0]) 3 56 Tryz.underlying56 hi hz0 hz1 hz2 rfl (by decide) (.slice rA rn rc) m rows rfl (ho2.alloc _) ⟨W.heap.size, 0, none⟩ 1 1 [.slice A n cap, .slice none 0 0, .int .i64 (c + 1)] rfl rfl (news_new _ _) (by simp [Value.oneCell']) (by decide) (by unfold maxLen; omega) (by omega) (by simp; omega) _ rfl ?_; intro g3 cap3 w3 hown3 hgrow3 hat3 hlt3; have qj3 := cell_grown hgrow3 (cell_alloc qj _) (fun q => HNE.out q.symm); have fj3 : w3.frozen? ⟨K, 5, none⟩ = false := frozen_block (hgrow3.block K (by simp; omega) (fun q => HNE.out q.symm)) (frozen_alloc fj hKW _)))
  all_goals
    have hKb : w3.heap[K]? = W.heap[K]? := (hgrow3.block K (by simp; omega) (fun q => HNE.out q.symm)).trans (((Below.refl _ W).alloc (Nat.le_refl _) _).block K hKW)
    have hgk : g3 ≠ K := by
      rcases hat3 with q | q
      · intro e; subst e; exact HNE.out q
      · intro e; simp at q; omega
    have HB3 := Lib.hid ((hb2.out.block hKb).set (.slice (some ⟨g3, 0, none⟩) (m + 1) cap3))
    have HO3 := Lib.hid (own_setCell (o := 5) hown3 (b := K) (by intro q; simp [Value.ownBlock] at q; omega) (.slice (some ⟨g3, 0, none⟩) (m + 1) cap3))
    have HC3 : Hid (Coll K w (w3.setCell ⟨K, 5, none⟩ (.slice (some ⟨g3, 0, none⟩) (m + 1) cap3)) (.slice rA rn rc) (.slice (some ⟨g3, 0, none⟩) (m + 1) cap3)) := Lib.hid
      ⟨hgrow3.os.trans HWO.out.1, hgrow3.tape.trans HWO.out.2.1, hgrow3.output.trans HWO.out.2.2, by have := hgrow3.size; simp at this ⊢; omega,
        fun b hb hbk hbr => (Below.heap_setCell w3 ⟨K, 5, none⟩ _ b hbk).trans ((hgrow3.block b (by simp; omega) hbr).trans ((((Below.refl _ W).alloc (Nat.le_refl _) _).block b (by omega)).trans (HWK.out b hbk))),
        fun b hb => by
          obtain rfl : g3 = b := by simpa [Value.ownBlock] using hb
          rcases hat3 with q | q
          · exact .inl q
          · right; simp at q; omega⟩
    clear hown3 hgrow3 hat3 hb2 ho2
    go_wp2
    go_end0
    exact ⟨rfl, g3, cap3, HB3.out, HO3.out, HC3.out⟩
theorem book_hash (base K m : Nat) (c : Int) (rA : Option Addr) (rn rc : Nat) (rows : List Value) (A : Option Addr) (n cap : Nat) (w : World) (hB : BookHash K c (.slice rA rn rc) w) (hown : w.ownsRow base 157 3 (.slice rA rn rc) m rows) (hne : (Value.slice rA rn rc).ownBlock ≠ some K)
    (hm : m ≤ 1099511627776) (hc0 : 0 ≤ c) (hc1 : c < 1099511627776) (hbase : base ≤ w.heap.size) :
    Calls Tryz.prog 53 #[.pointer (some ⟨K, 0, none⟩), .slice A n cap] w fun ev w' => ev = .returned (.tuple #[]) ∧ ∃ g cap2, BookHash K (c + 1) (.slice (some ⟨g, 0, none⟩) (m + 1) cap2) w' ∧
      w'.ownsRow base 157 3 (.slice (some ⟨g, 0, none⟩) (m + 1) cap2) (m + 1) (rows ++ [.slice A n cap, .slice none 0 0, .int .i64 (c + 1)]) ∧ Coll K w w' (.slice rA rn rc) (.slice (some ⟨g, 0, none⟩) (m + 1) cap2) := by
  go_enter Tryz.func53, Tryz.ntmps53
  go_wp2_with fail
  refine (keep_hash base K m c rA rn rc rows A n cap _ hB hown hne hm hc0 hc1 hbase).mono ?_
  rintro ev w1 ⟨rfl, h⟩
  go_wp2
  go_end0
  exact ⟨rfl, h⟩
end Go.Proofs.YtnpblpbcchminaaGreatDoor


/- cartularylaw01.Book: Apart of a book that holds lists of one kind, which lie apart. No condition. -/
namespace Go.Proofs.YtnpblpbcchminaaGreatDoor
open Go.ChangeShapes Go.WideShapes Go.ChangeAt Go.RowKit
set_option linter.unusedVariables false
set_option maxRecDepth 100000 in
set_option maxHeartbeats 4000000 in
theorem apart_hash (base K r m cap : Nat) (c : Int) (H : List Hold) (w : World) (hm : H.length = m) (hm2 : m ≤ 1099511627776) (hbase : base ≤ w.heap.size) (hB : BookHash K c (.slice (some ⟨r, 0, none⟩) m cap) w) (hrow : RowAt r H (fun _ => .slice none 0 0) w) (hr : r < w.heap.size) (hbr : base ≤ r) (hbK : base ≤ K) (ha : Away K r H)
    (hl : ∀ (t : Nat) (h : Hold), H[t]? = some h → ∃ ys, w.ownsRow base 23 32 h.v h.n ys) (hn : ∀ (t : Nat) (h : Hold), H[t]? = some h → h.n ≤ 1099511627776 ∧ 0 ≤ h.num ∧ h.num ≤ 1099511627776) :
    Calls Tryz.prog 25 #[.pointer (some ⟨K, 0, none⟩)] w fun ev w' => ev = .returned (.bool true) ∧ Below base w w' := by
  have hK := block_of_cell hB.num
  have HB := Lib.hid hB
  have HROW := Lib.hid hrow
  have HA := Lib.hid ha
  have HL := Lib.hid hl
  have HN := Lib.hid hn
  clear hB hrow ha hl hn
  go_enter Tryz.func25, Tryz.ntmps25
  go_wp2_with fail
  refine (fill_nil_Int K _ (HB.out.nil 1 (by omega) (by omega) (by omega))).mono ?_
  rintro ev w' ⟨rfl, rfl⟩
  go_wp2_with fail
  refine (fill_nil_Byte K _ (HB.out.nil 2 (by omega) (by omega) (by omega))).mono ?_
  rintro ev w' ⟨rfl, rfl⟩
  go_wp2_with fail
  refine (fill_nil_Text K _ (HB.out.nil 3 (by omega) (by omega) (by omega))).mono ?_
  rintro ev w' ⟨rfl, rfl⟩
  go_wp2_with fail
  refine (fill_nil_Number K _ (HB.out.nil 4 (by omega) (by omega) (by omega))).mono ?_
  rintro ev w' ⟨rfl, rfl⟩
  go_wp2_with fail
  refine (fill_hash base K r m cap H _ hm hm2 hbase HB.out.own HROW.out hr HA.out HL.out HN.out).mono ?_
  rintro ev w1 ⟨rfl, hf⟩
  have HB1 := Lib.hid (HB.out.block hf.bk)
  have HF := Lib.hid hf
  clear hf
  go_wp2_with fail
  refine (fill_nil_Coord K _ (HB1.out.nil 6 (by omega) (by omega) (by omega))).mono ?_
  rintro ev w' ⟨rfl, rfl⟩
  go_wp2_with fail
  refine (fill_nil_Span K _ (HB1.out.nil 7 (by omega) (by omega) (by omega))).mono ?_
  rintro ev w' ⟨rfl, rfl⟩
  go_wp2_with fail
  refine (fill_nil_Node K _ (HB1.out.nil 8 (by omega) (by omega) (by omega))).mono ?_
  rintro ev w' ⟨rfl, rfl⟩
  go_wp2_with fail
  refine (fill_nil_Tile K _ (HB1.out.nil 9 (by omega) (by omega) (by omega))).mono ?_
  rintro ev w' ⟨rfl, rfl⟩
  go_wp2_with fail
  refine (fill_nil_Entry K _ (HB1.out.nil 10 (by omega) (by omega) (by omega))).mono ?_
  rintro ev w' ⟨rfl, rfl⟩
  go_wp2_with fail
  refine (fill_nil_Found K _ (HB1.out.nil 11 (by omega) (by omega) (by omega))).mono ?_
  rintro ev w' ⟨rfl, rfl⟩
  go_wp2_with fail
  refine (fill_nil_Known K _ (HB1.out.nil 12 (by omega) (by omega) (by omega))).mono ?_
  rintro ev w' ⟨rfl, rfl⟩
  go_wp2_with fail
  refine (fill_nil_Vote K _ (HB1.out.nil 13 (by omega) (by omega) (by omega))).mono ?_
  rintro ev w' ⟨rfl, rfl⟩
  go_wp2_with fail
  refine (fill_nil_Part K _ (HB1.out.nil 14 (by omega) (by omega) (by omega))).mono ?_
  rintro ev w' ⟨rfl, rfl⟩
  go_wp2_with fail
  refine (fill_nil_HashList K _ (HB1.out.nil 15 (by omega) (by omega) (by omega))).mono ?_
  rintro ev w' ⟨rfl, rfl⟩
  go_wp2_with fail
  refine (fill_nil_Query K _ (HB1.out.nil 16 (by omega) (by omega) (by omega))).mono ?_
  rintro ev w' ⟨rfl, rfl⟩
  go_wp2_with fail
  refine (grow_nil_Int K _ (HB1.out.nil 1 (by omega) (by omega) (by omega))).mono ?_
  rintro ev w' ⟨rfl, rfl⟩
  go_wp2_with fail
  refine (grow_nil_Byte K _ (HB1.out.nil 2 (by omega) (by omega) (by omega))).mono ?_
  rintro ev w' ⟨rfl, rfl⟩
  go_wp2_with fail
  refine (grow_nil_Text K _ (HB1.out.nil 3 (by omega) (by omega) (by omega))).mono ?_
  rintro ev w' ⟨rfl, rfl⟩
  go_wp2_with fail
  refine (grow_nil_Number K _ (HB1.out.nil 4 (by omega) (by omega) (by omega))).mono ?_
  rintro ev w' ⟨rfl, rfl⟩
  go_wp2_with fail
  refine (grow_hash base K r m cap H _ hm hm2 (by have := HF.out.below.size; omega) HB1.out.own (HROW.out.block HF.out.row) (by have := HF.out.below.size; omega) hbr HA.out
    (fun t h ht => by obtain ⟨ys, a, b, _⟩ := HF.out.lists t h ht; exact ⟨ys, a, b (by have := (List.getElem?_eq_some_iff.1 ht).1; omega)⟩) HN.out).mono ?_
  rintro ev w2 ⟨rfl, lg, hg⟩
  have HB2 := Lib.hid (HB1.out.block hg.bk)
  have HG := Lib.hid hg
  have HD : Hid (∀ (t : Nat) (h : Hold), H[t]? = some h → OldHash h w2 ∧ (∃ A c, h.v = .slice A h.n c) ∧ ∃ b, LongHash h (lg t) (h.n + 70) b w2) := Lib.hid (fun t h ht => by
    obtain ⟨a, b, c, _⟩ := HG.out.done t h ht (by have := (List.getElem?_eq_some_iff.1 ht).1; omega)
    obtain ⟨ys, o⟩ := HL.out t h ht
    obtain ⟨_, A, cp, hv, _⟩ := rd_own o
    exact ⟨a, ⟨A, cp, hv⟩, b, c⟩)
  clear hg
  go_wp2_with fail
  refine (grow_nil_Coord K _ (HB2.out.nil 6 (by omega) (by omega) (by omega))).mono ?_
  rintro ev w' ⟨rfl, rfl⟩
  go_wp2_with fail
  refine (grow_nil_Span K _ (HB2.out.nil 7 (by omega) (by omega) (by omega))).mono ?_
  rintro ev w' ⟨rfl, rfl⟩
  go_wp2_with fail
  refine (grow_nil_Node K _ (HB2.out.nil 8 (by omega) (by omega) (by omega))).mono ?_
  rintro ev w' ⟨rfl, rfl⟩
  go_wp2_with fail
  refine (grow_nil_Tile K _ (HB2.out.nil 9 (by omega) (by omega) (by omega))).mono ?_
  rintro ev w' ⟨rfl, rfl⟩
  go_wp2_with fail
  refine (grow_nil_Entry K _ (HB2.out.nil 10 (by omega) (by omega) (by omega))).mono ?_
  rintro ev w' ⟨rfl, rfl⟩
  go_wp2_with fail
  refine (grow_nil_Found K _ (HB2.out.nil 11 (by omega) (by omega) (by omega))).mono ?_
  rintro ev w' ⟨rfl, rfl⟩
  go_wp2_with fail
  refine (grow_nil_Known K _ (HB2.out.nil 12 (by omega) (by omega) (by omega))).mono ?_
  rintro ev w' ⟨rfl, rfl⟩
  go_wp2_with fail
  refine (grow_nil_Vote K _ (HB2.out.nil 13 (by omega) (by omega) (by omega))).mono ?_
  rintro ev w' ⟨rfl, rfl⟩
  go_wp2_with fail
  refine (grow_nil_Part K _ (HB2.out.nil 14 (by omega) (by omega) (by omega))).mono ?_
  rintro ev w' ⟨rfl, rfl⟩
  go_wp2_with fail
  refine (grow_nil_HashList K _ (HB2.out.nil 15 (by omega) (by omega) (by omega))).mono ?_
  rintro ev w' ⟨rfl, rfl⟩
  go_wp2_with fail
  refine (grow_nil_Query K _ (HB2.out.nil 16 (by omega) (by omega) (by omega))).mono ?_
  rintro ev w' ⟨rfl, rfl⟩
  go_wp2_with fail
  refine (look_nil_Int K _ (HB2.out.nil 1 (by omega) (by omega) (by omega))).mono ?_
  rintro ev w' ⟨rfl, rfl⟩
  go_wp2_with fail
  refine (look_nil_Byte K _ (HB2.out.nil 2 (by omega) (by omega) (by omega))).mono ?_
  rintro ev w' ⟨rfl, rfl⟩
  go_wp2_with fail
  refine (look_nil_Text K _ (HB2.out.nil 3 (by omega) (by omega) (by omega))).mono ?_
  rintro ev w' ⟨rfl, rfl⟩
  go_wp2_with fail
  refine (look_nil_Number K _ (HB2.out.nil 4 (by omega) (by omega) (by omega))).mono ?_
  rintro ev w' ⟨rfl, rfl⟩
  go_wp2_with fail
  refine (look_hash K r m cap H lg _ hm hm2 HB2.out.own HG.out.row HD.out HN.out).mono ?_
  rintro ev w3 ⟨rfl, b3⟩
  have HB3 := Lib.hid (HB2.out.block (b3.block K (block_of_cell HB2.out.num)))
  have HBL : Hid (Below base w w3) := Lib.hid ((HF.out.below.trans HG.out.below).trans (b3.mono (by have := HF.out.below.size; have := HG.out.below.size; omega)))
  clear b3
  go_wp2_with fail
  refine (look_nil_Coord K _ (HB3.out.nil 6 (by omega) (by omega) (by omega))).mono ?_
  rintro ev w' ⟨rfl, rfl⟩
  go_wp2_with fail
  refine (look_nil_Span K _ (HB3.out.nil 7 (by omega) (by omega) (by omega))).mono ?_
  rintro ev w' ⟨rfl, rfl⟩
  go_wp2_with fail
  refine (look_nil_Node K _ (HB3.out.nil 8 (by omega) (by omega) (by omega))).mono ?_
  rintro ev w' ⟨rfl, rfl⟩
  go_wp2_with fail
  refine (look_nil_Tile K _ (HB3.out.nil 9 (by omega) (by omega) (by omega))).mono ?_
  rintro ev w' ⟨rfl, rfl⟩
  go_wp2_with fail
  refine (look_nil_Entry K _ (HB3.out.nil 10 (by omega) (by omega) (by omega))).mono ?_
  rintro ev w' ⟨rfl, rfl⟩
  go_wp2_with fail
  refine (look_nil_Found K _ (HB3.out.nil 11 (by omega) (by omega) (by omega))).mono ?_
  rintro ev w' ⟨rfl, rfl⟩
  go_wp2_with fail
  refine (look_nil_Known K _ (HB3.out.nil 12 (by omega) (by omega) (by omega))).mono ?_
  rintro ev w' ⟨rfl, rfl⟩
  go_wp2_with fail
  refine (look_nil_Vote K _ (HB3.out.nil 13 (by omega) (by omega) (by omega))).mono ?_
  rintro ev w' ⟨rfl, rfl⟩
  go_wp2_with fail
  refine (look_nil_Part K _ (HB3.out.nil 14 (by omega) (by omega) (by omega))).mono ?_
  rintro ev w' ⟨rfl, rfl⟩
  go_wp2_with fail
  refine (look_nil_HashList K _ (HB3.out.nil 15 (by omega) (by omega) (by omega))).mono ?_
  rintro ev w' ⟨rfl, rfl⟩
  go_wp2_with fail
  refine (look_nil_Query K _ (HB3.out.nil 16 (by omega) (by omega) (by omega))).mono ?_
  rintro ev w' ⟨rfl, rfl⟩
  go_wp2
  go_ret
  exact ⟨rfl, HBL.out⟩
end Go.Proofs.YtnpblpbcchminaaGreatDoor


/- cartularylaw01.Book: two lists in a new book. No condition. -/
namespace Go.Proofs.YtnpblpbcchminaaGreatDoor
open Go.ChangeShapes Go.WideShapes Go.ChangeAt Go.RowKit
set_option linter.unusedVariables false
theorem own_collHash {K base size n : Nat} {e : TypeId} {w w' : World} {v rv rv' : Value} {xs : List Value} (h : w.ownsRow base e size v n xs) (c : Coll K w w' rv rv') (hK : some K ≠ v.ownBlock) (hr : v.ownBlock = none ∨ v.ownBlock ≠ rv.ownBlock) : w'.ownsRow base e size v n xs := by
  refine ⟨h.1, ?_⟩
  rcases h.2 with q | ⟨g, cap, cur, h1, h2, h3, h4⟩
  · exact .inl q
  · have hb : v.ownBlock = some g := by rw [h1]; rfl
    refine .inr ⟨g, cap, cur, h1, h2, ?_, h4⟩
    rw [c.same g (h.lt g hb).2 (fun q => hK (by rw [hb, q])) (fun q => by
      rcases hr with z | z
      · rw [z] at hb; cases hb
      · exact z (by rw [hb, q]))]
    exact h3
/-- a book with nothing in it -/
theorem bookHash_new (w : World) : BookHash w.heap.size 0 (.slice none 0 0) (w.alloc (.cells #[.int .i64 0, .slice none 0 0, .slice none 0 0, .slice none 0 0, .slice none 0 0, .slice none 0 0, .slice none 0 0, .slice none 0 0, .slice none 0 0, .slice none 0 0, .slice none 0 0, .slice none 0 0, .slice none 0 0, .slice none 0 0, .slice none 0 0, .slice none 0 0, .slice none 0 0] 69)) := by
  refine ⟨cell_new _ _ 0 _ rfl, cell_new _ _ 5 _ rfl, fun i h1 h2 _ => ?_, fun i => by simp⟩
  rcases (show i = 1 ∨ i = 2 ∨ i = 3 ∨ i = 4 ∨ i = 5 ∨ i = 6 ∨ i = 7 ∨ i = 8 ∨ i = 9 ∨ i = 10 ∨ i = 11 ∨ i = 12 ∨ i = 13 ∨ i = 14 ∨ i = 15 ∨ i = 16 by omega) with rfl | rfl | rfl | rfl | rfl | rfl | rfl | rfl | rfl | rfl | rfl | rfl | rfl | rfl | rfl | rfl
  all_goals exact cell_new _ _ _ _ rfl
end Go.Proofs.YtnpblpbcchminaaGreatDoor


