/- cartularylaw01.Book: Apart of a book that holds lists of one kind, which lie apart. No condition. -/
import Derived.Test.YtnddjadjmgfgnaaGreatDoorLookCoord
import Derived.Test.YtnddjadjmgfgnaaGreatDoorKeepCoord
import Derived.Test.YtnddjadjmgfgnaaGreatDoorNilFill
import Derived.Test.YtnddjadjmgfgnaaGreatDoorNilGrow
import Derived.Test.YtnddjadjmgfgnaaGreatDoorNilLook
namespace Go.Proofs.YtnddjadjmgfgnaaGreatDoor
open Go.ChangeShapes Go.WideShapes Go.ChangeAt Go.RowKit
set_option linter.unusedVariables false
set_option maxRecDepth 100000 in
set_option maxHeartbeats 4000000 in
theorem apart_coord (base K r m cap : Nat) (c : Int) (H : List Hold) (w : World) (hm : H.length = m) (hm2 : m ≤ 1000000) (hbase : base ≤ w.heap.size) (hB : BookCoord K c (.slice (some ⟨r, 0, none⟩) m cap) w) (hrow : RowAt r H (fun _ => .slice none 0 0) w) (hr : r < w.heap.size) (hbr : base ≤ r) (hbK : base ≤ K) (ha : Away K r H)
    (hl : ∀ (t : Nat) (h : Hold), H[t]? = some h → ∃ ys, w.ownsRow base 77 2 h.v h.n ys) (hn : ∀ (t : Nat) (h : Hold), H[t]? = some h → h.n ≤ 1000000 ∧ 0 ≤ h.num ∧ h.num ≤ 1000000) :
    Calls Tryz.prog 12 #[.pointer (some ⟨K, 0, none⟩)] w fun ev w' => ev = .returned (.bool true) ∧ Below base w w' := by
  have hK := block_of_cell hB.num
  have HB := Lib.hid hB
  have HROW := Lib.hid hrow
  have HA := Lib.hid ha
  have HL := Lib.hid hl
  have HN := Lib.hid hn
  clear hB hrow ha hl hn
  go_enter Tryz.func12, Tryz.ntmps12
  go_wp2_with fail
  refine (fill_nil_Int K _ (HB.out.nil 1 (by omega) (by omega) (by omega))).mono ?_
  rintro ev w' ⟨rfl, rfl⟩
  go_wp2_with fail
  refine (fill_nil_Byte K _ (HB.out.nil 2 (by omega) (by omega) (by omega))).mono ?_
  rintro ev w' ⟨rfl, rfl⟩
  go_wp2_with fail
  refine (fill_nil_Text K _ (HB.out.nil 3 (by omega) (by omega) (by omega))).mono ?_
  rintro ev w' ⟨rfl, rfl⟩
  go_wp2_with fail
  refine (fill_nil_Number K _ (HB.out.nil 4 (by omega) (by omega) (by omega))).mono ?_
  rintro ev w' ⟨rfl, rfl⟩
  go_wp2_with fail
  refine (fill_nil_Hash K _ (HB.out.nil 5 (by omega) (by omega) (by omega))).mono ?_
  rintro ev w' ⟨rfl, rfl⟩
  go_wp2_with fail
  refine (fill_coord base K r m cap H _ hm hm2 hbase HB.out.own HROW.out hr HA.out HL.out HN.out).mono ?_
  rintro ev w1 ⟨rfl, hf⟩
  have HB1 := Lib.hid (HB.out.block hf.bk)
  have HF := Lib.hid hf
  clear hf
  go_wp2_with fail
  refine (fill_nil_Span K _ (HB1.out.nil 7 (by omega) (by omega) (by omega))).mono ?_
  rintro ev w' ⟨rfl, rfl⟩
  go_wp2_with fail
  refine (fill_nil_Node K _ (HB1.out.nil 8 (by omega) (by omega) (by omega))).mono ?_
  rintro ev w' ⟨rfl, rfl⟩
  go_wp2_with fail
  refine (fill_nil_Tile K _ (HB1.out.nil 9 (by omega) (by omega) (by omega))).mono ?_
  rintro ev w' ⟨rfl, rfl⟩
  go_wp2_with fail
  refine (fill_nil_Entry K _ (HB1.out.nil 10 (by omega) (by omega) (by omega))).mono ?_
  rintro ev w' ⟨rfl, rfl⟩
  go_wp2_with fail
  refine (fill_nil_Found K _ (HB1.out.nil 11 (by omega) (by omega) (by omega))).mono ?_
  rintro ev w' ⟨rfl, rfl⟩
  go_wp2_with fail
  refine (fill_nil_Known K _ (HB1.out.nil 12 (by omega) (by omega) (by omega))).mono ?_
  rintro ev w' ⟨rfl, rfl⟩
  go_wp2_with fail
  refine (fill_nil_Vote K _ (HB1.out.nil 13 (by omega) (by omega) (by omega))).mono ?_
  rintro ev w' ⟨rfl, rfl⟩
  go_wp2_with fail
  refine (fill_nil_Part K _ (HB1.out.nil 14 (by omega) (by omega) (by omega))).mono ?_
  rintro ev w' ⟨rfl, rfl⟩
  go_wp2_with fail
  refine (fill_nil_HashList K _ (HB1.out.nil 15 (by omega) (by omega) (by omega))).mono ?_
  rintro ev w' ⟨rfl, rfl⟩
  go_wp2_with fail
  refine (fill_nil_Query K _ (HB1.out.nil 16 (by omega) (by omega) (by omega))).mono ?_
  rintro ev w' ⟨rfl, rfl⟩
  go_wp2_with fail
  refine (grow_nil_Int K _ (HB1.out.nil 1 (by omega) (by omega) (by omega))).mono ?_
  rintro ev w' ⟨rfl, rfl⟩
  go_wp2_with fail
  refine (grow_nil_Byte K _ (HB1.out.nil 2 (by omega) (by omega) (by omega))).mono ?_
  rintro ev w' ⟨rfl, rfl⟩
  go_wp2_with fail
  refine (grow_nil_Text K _ (HB1.out.nil 3 (by omega) (by omega) (by omega))).mono ?_
  rintro ev w' ⟨rfl, rfl⟩
  go_wp2_with fail
  refine (grow_nil_Number K _ (HB1.out.nil 4 (by omega) (by omega) (by omega))).mono ?_
  rintro ev w' ⟨rfl, rfl⟩
  go_wp2_with fail
  refine (grow_nil_Hash K _ (HB1.out.nil 5 (by omega) (by omega) (by omega))).mono ?_
  rintro ev w' ⟨rfl, rfl⟩
  go_wp2_with fail
  refine (grow_coord base K r m cap H _ hm hm2 (by have := HF.out.below.size; omega) HB1.out.own (HROW.out.block HF.out.row) (by have := HF.out.below.size; omega) hbr HA.out
    (fun t h ht => by obtain ⟨ys, a, b, _⟩ := HF.out.lists t h ht; exact ⟨ys, a, b (by have := (List.getElem?_eq_some_iff.1 ht).1; omega)⟩) HN.out).mono ?_
  rintro ev w2 ⟨rfl, lg, hg⟩
  have HB2 := Lib.hid (HB1.out.block hg.bk)
  have HG := Lib.hid hg
  have HD : Hid (∀ (t : Nat) (h : Hold), H[t]? = some h → OldCoord h w2 ∧ (∃ A c, h.v = .slice A h.n c) ∧ ∃ b, LongCoord h (lg t) (h.n + 70) b w2) := Lib.hid (fun t h ht => by
    obtain ⟨a, b, c, _⟩ := HG.out.done t h ht (by have := (List.getElem?_eq_some_iff.1 ht).1; omega)
    obtain ⟨ys, o⟩ := HL.out t h ht
    obtain ⟨_, A, cp, hv, _⟩ := rd_own o
    exact ⟨a, ⟨A, cp, hv⟩, b, c⟩)
  clear hg
  go_wp2_with fail
  refine (grow_nil_Span K _ (HB2.out.nil 7 (by omega) (by omega) (by omega))).mono ?_
  rintro ev w' ⟨rfl, rfl⟩
  go_wp2_with fail
  refine (grow_nil_Node K _ (HB2.out.nil 8 (by omega) (by omega) (by omega))).mono ?_
  rintro ev w' ⟨rfl, rfl⟩
  go_wp2_with fail
  refine (grow_nil_Tile K _ (HB2.out.nil 9 (by omega) (by omega) (by omega))).mono ?_
  rintro ev w' ⟨rfl, rfl⟩
  go_wp2_with fail
  refine (grow_nil_Entry K _ (HB2.out.nil 10 (by omega) (by omega) (by omega))).mono ?_
  rintro ev w' ⟨rfl, rfl⟩
  go_wp2_with fail
  refine (grow_nil_Found K _ (HB2.out.nil 11 (by omega) (by omega) (by omega))).mono ?_
  rintro ev w' ⟨rfl, rfl⟩
  go_wp2_with fail
  refine (grow_nil_Known K _ (HB2.out.nil 12 (by omega) (by omega) (by omega))).mono ?_
  rintro ev w' ⟨rfl, rfl⟩
  go_wp2_with fail
  refine (grow_nil_Vote K _ (HB2.out.nil 13 (by omega) (by omega) (by omega))).mono ?_
  rintro ev w' ⟨rfl, rfl⟩
  go_wp2_with fail
  refine (grow_nil_Part K _ (HB2.out.nil 14 (by omega) (by omega) (by omega))).mono ?_
  rintro ev w' ⟨rfl, rfl⟩
  go_wp2_with fail
  refine (grow_nil_HashList K _ (HB2.out.nil 15 (by omega) (by omega) (by omega))).mono ?_
  rintro ev w' ⟨rfl, rfl⟩
  go_wp2_with fail
  refine (grow_nil_Query K _ (HB2.out.nil 16 (by omega) (by omega) (by omega))).mono ?_
  rintro ev w' ⟨rfl, rfl⟩
  go_wp2_with fail
  refine (look_nil_Int K _ (HB2.out.nil 1 (by omega) (by omega) (by omega))).mono ?_
  rintro ev w' ⟨rfl, rfl⟩
  go_wp2_with fail
  refine (look_nil_Byte K _ (HB2.out.nil 2 (by omega) (by omega) (by omega))).mono ?_
  rintro ev w' ⟨rfl, rfl⟩
  go_wp2_with fail
  refine (look_nil_Text K _ (HB2.out.nil 3 (by omega) (by omega) (by omega))).mono ?_
  rintro ev w' ⟨rfl, rfl⟩
  go_wp2_with fail
  refine (look_nil_Number K _ (HB2.out.nil 4 (by omega) (by omega) (by omega))).mono ?_
  rintro ev w' ⟨rfl, rfl⟩
  go_wp2_with fail
  refine (look_nil_Hash K _ (HB2.out.nil 5 (by omega) (by omega) (by omega))).mono ?_
  rintro ev w' ⟨rfl, rfl⟩
  go_wp2_with fail
  refine (look_coord K r m cap H lg _ hm hm2 HB2.out.own HG.out.row HD.out HN.out).mono ?_
  rintro ev w3 ⟨rfl, b3⟩
  have HB3 := Lib.hid (HB2.out.block (b3.block K (block_of_cell HB2.out.num)))
  have HBL : Hid (Below base w w3) := Lib.hid ((HF.out.below.trans HG.out.below).trans (b3.mono (by have := HF.out.below.size; have := HG.out.below.size; omega)))
  clear b3
  go_wp2_with fail
  refine (look_nil_Span K _ (HB3.out.nil 7 (by omega) (by omega) (by omega))).mono ?_
  rintro ev w' ⟨rfl, rfl⟩
  go_wp2_with fail
  refine (look_nil_Node K _ (HB3.out.nil 8 (by omega) (by omega) (by omega))).mono ?_
  rintro ev w' ⟨rfl, rfl⟩
  go_wp2_with fail
  refine (look_nil_Tile K _ (HB3.out.nil 9 (by omega) (by omega) (by omega))).mono ?_
  rintro ev w' ⟨rfl, rfl⟩
  go_wp2_with fail
  refine (look_nil_Entry K _ (HB3.out.nil 10 (by omega) (by omega) (by omega))).mono ?_
  rintro ev w' ⟨rfl, rfl⟩
  go_wp2_with fail
  refine (look_nil_Found K _ (HB3.out.nil 11 (by omega) (by omega) (by omega))).mono ?_
  rintro ev w' ⟨rfl, rfl⟩
  go_wp2_with fail
  refine (look_nil_Known K _ (HB3.out.nil 12 (by omega) (by omega) (by omega))).mono ?_
  rintro ev w' ⟨rfl, rfl⟩
  go_wp2_with fail
  refine (look_nil_Vote K _ (HB3.out.nil 13 (by omega) (by omega) (by omega))).mono ?_
  rintro ev w' ⟨rfl, rfl⟩
  go_wp2_with fail
  refine (look_nil_Part K _ (HB3.out.nil 14 (by omega) (by omega) (by omega))).mono ?_
  rintro ev w' ⟨rfl, rfl⟩
  go_wp2_with fail
  refine (look_nil_HashList K _ (HB3.out.nil 15 (by omega) (by omega) (by omega))).mono ?_
  rintro ev w' ⟨rfl, rfl⟩
  go_wp2_with fail
  refine (look_nil_Query K _ (HB3.out.nil 16 (by omega) (by omega) (by omega))).mono ?_
  rintro ev w' ⟨rfl, rfl⟩
  go_wp2
  go_ret
  exact ⟨rfl, HBL.out⟩
end Go.Proofs.YtnddjadjmgfgnaaGreatDoor
