import Derived.Test.YtnpblpbcchminaaGreatDoorKbHashAny
import Derived.Great.BuildSlice
import Derived.ArgAppend
import Derived.Lib.EndianMore
import Derived.StillTailTactics
/- cartularyref04.block: the eight words behind a block. No condition. -/
namespace Go.Proofs.YtnpblpbcchminaaGreatDoor
open Go.ChangeShapes Go.WideShapes Go.ChangeAt Go.RowKit
set_option linter.unusedVariables false
end Go.Proofs.YtnpblpbcchminaaGreatDoor
/- ref04.table, ref04.start. -/
namespace Go.Proofs.YtnpblpbcchminaaGreatDoor
open Go.ChangeShapes Go.WideShapes Go.ChangeAt Go.RowKit
set_option linter.unusedVariables false
end Go.Proofs.YtnpblpbcchminaaGreatDoor

/- append of one cell onto a row that may bear a mark behind its end (what a conversion laid). No program in sight. -/
namespace Go.Proofs.YtnpblpbcchminaaGreatDoor
open Go.ChangeShapes Go.WideShapes Go.ChangeAt Go.RowKit
set_option linter.unusedVariables false
/-- a row of one-cell elements in a block at or behind base: the cells xs, and spare cells that may be written -/
def LRow (w : World) (base : Nat) (A : Option Addr) (n cap : Nat) (xs : List Value) : Prop :=
  xs.length = n ∧ n ≤ cap ∧ cap ≤ maxLen ∧ ∃ g, A = some ⟨g, 0, none⟩ ∧ base ≤ g ∧ g < w.heap.size ∧ w.rangeAt g 0 xs ∧
    ∀ j, n ≤ j → j < cap → (w.cell? ⟨g, j, none⟩).isSome = true ∧ w.frozen? ⟨g, j, none⟩ = false
theorem LRow.below {w w' : World} {base n cap B : Nat} {A : Option Addr} {xs : List Value} (h : LRow w base A n cap xs) (hb : Below B w w') (hB : w.heap.size ≤ B) : LRow w' base A n cap xs := by
  obtain ⟨h1, h2, h3, g, h4, h5, h6, h7, h8⟩ := h
  have e := hb.block g (by omega)
  exact ⟨h1, h2, h3, g, h4, h5, Nat.lt_of_lt_of_le h6 hb.size, fun j v hj => cell_block e (h7 j v hj), fun j a b => ⟨by rw [World.cell?_of_block (a := ⟨g, j, none⟩) e]; exact (h8 j a b).1, (World.frozen?_of_block (a := ⟨g, j, none⟩) e).trans (h8 j a b).2⟩⟩
theorem LRow.alloc {w : World} {base n cap : Nat} {A : Option Addr} {xs : List Value} (h : LRow w base A n cap xs) (o : Obj) : LRow (w.alloc o) base A n cap xs := h.below ((Below.refl _ _).alloc (Nat.le_refl _) o) (Nat.le_refl _)
theorem LRow.congr {w : World} {base n m cap : Nat} {A : Option Addr} {xs ys : List Value} (h : LRow w base A n cap xs) (e : n = m) (f : xs = ys) : LRow w base A m cap ys := e ▸ f ▸ h
end Go.Proofs.YtnpblpbcchminaaGreatDoor

/- ref04.padded: the text's bytes, padded. -/
namespace Go.Proofs.YtnpblpbcchminaaGreatDoor
open Go.ChangeShapes Go.WideShapes Go.ChangeAt Go.RowKit
set_option linter.unusedVariables false
theorem info_u8p : (Tryz.prog.info? 5).map (fun i => (i.zero, i.size, i.bytes)) = some (some (.int .u8 0), 1, 1) := by kernel_rfl
end Go.Proofs.YtnpblpbcchminaaGreatDoor

/- ref04.Sum: SHA-256 of a text's bytes. -/
namespace Go.Proofs.YtnpblpbcchminaaGreatDoor
open Go.ChangeShapes Go.WideShapes Go.ChangeAt Go.RowKit
set_option linter.unusedVariables false
end Go.Proofs.YtnpblpbcchminaaGreatDoor
/- ref05.bytes, NodeText, Node: SHA-256 of a node's text. -/
namespace Go.Proofs.YtnpblpbcchminaaGreatDoor
open Go.ChangeShapes Go.WideShapes Go.ChangeAt Go.RowKit
set_option linter.unusedVariables false
theorem bytes_back2 (w : World) (g o n cap : Nat) (l : List UInt8) (hn : l.length = n) (h : w.rangeAt g o (bytesV l)) : (convert 138 9 (.slice (some ⟨g, o, none⟩) n cap)).run Tryz.prog w = .ok (.string ⟨l.toArray⟩) w := by
  subst hn
  refine run_convert_bytes_back w 138 9 5 ⟨g, o, none⟩ cap l Tryz.underlying138 Tryz.underlying5 Tryz.underlying9 (fun j hj => ?_)
  exact range_add h j _ (bytesV_get (List.getElem?_eq_getElem hj))
set_option maxRecDepth 100000 in
set_option maxHeartbeats 4000000 in
theorem hbytes_any (a : List UInt8) (w : World) (ha : a.length = 32) :
    Calls Tryz.prog 171 #[hv a] w fun ev w' => ev = .returned (.string ⟨a.toArray⟩) ∧ Below w.heap.size w w' := by
  obtain ⟨i0, hi, hz0, hz1, hz2⟩ := info_parts info_u8p
  obtain ⟨va, hva⟩ : ∃ va, (bytesV a).toArray = va := ⟨_, rfl⟩
  have hia : (Tryz.prog.info? 23).map (·.size) = some va.size := by rw [← hva]; simp only [List.size_toArray, bytesV_length, ha]; kernel_rfl
  have hoa : va.all (·.oneCell') = true := by rw [← hva]; exact bytesV_all _
  have hra : Hid ((w.alloc (.cells va 23)).rangeAt w.heap.size 0 (bytesV a)) := Lib.hid (rangeAt_new w va 23 a hva)
  have hba : Hid (Below w.heap.size w (w.alloc (.cells va 23))) := Lib.hid ((Below.refl _ _).alloc (Nat.le_refl _) _)
  rw [show hv a = .agg va by rw [hv, hva]]
  have HVA := Lib.hid (And.intro hva ha)
  clear hva ha
  go_enter Tryz.func171, Tryz.ntmps171
  go_wp2
  have h0w : w.heap.size < (w.alloc (.cells va 23)).heap.size := by simp
  obtain ⟨wa, hwa⟩ : ∃ wa, w.alloc (.cells va 23) = wa := ⟨_, rfl⟩
  rw [hwa] at hra hba h0w ⊢
  clear hwa
  go_loopw [3, 4] (fun v c wr => ∃ (t cap : Nat) (A : Option Addr), t ≤ 32 ∧ v = .slice A t cap ∧ c = .int .i64 (t : Int) ∧ Hid (wr.ownsRow wa.heap.size 5 1 (.slice A t cap) t (bytesV (a.take t))) ∧ Hid (Below wa.heap.size wa wr)) (fun _ c _ => 32 - (intOf c).toNat)
  case atStart => exact ⟨0, 0, none, by omega, rfl, rfl, Lib.hid (World.ownsRow_nil _ _ _ _), Lib.hid (Below.refl _ _)⟩
  case round =>
    obtain ⟨t, cap, A, ht, rfl, rfl, HO, HB⟩ := hrel
    have hwr := HB.out.size
    by_cases hlt : t < 32
    · obtain ⟨x, hx⟩ : ∃ x, a[t]? = some x := ⟨_, List.getElem?_eq_getElem (by rw [HVA.out.2]; exact hlt)⟩
      have c0 : wr.cell? ⟨w.heap.size, t, none⟩ = some (byteV x) := by
        have h := hra.out t (byteV x) (bytesV_get hx)
        rw [Nat.zero_add] at h
        exact cell_below HB.out h h0w
      --c9 : Hid ((wr.alloc (.cells #[byteV x] 5)).cell? ⟨w.heap.size, t, none⟩ = some (byteV x)) := Lib.hid (cell_alloc c0 _)
      obtain ⟨kx, hbx⟩ : ∃ kx : Int, byteV x = .int .u8 kx := ⟨_, rfl⟩
      rw [hbx] at c0
      have HBX := Lib.hid hbx
      have HTk : Hid (bytesV (a.take (t + 1)) = bytesV (a.take t) ++ [.int .u8 kx]) := Lib.hid (by rw [List.take_add_one, hx, bytesV_append, ← hbx]; rfl)
      clear hbx hx
      have i1 : (t : Int) < 32 := by omega
      have i0' : (0 : Int) ≤ t := by omega
      go_wp2_with (at_builtin; go_loud (refine wpList_append_shape rfl (.tmp 9) (.tmp 13) 138 rfl wa.heap.size 5 i0 (.int .u8 0) 1 1 Tryz.underlying138 hi hz0 hz1 hz2 rfl (by decide) (.slice A t cap) t _ rfl (HO.out.alloc _) ⟨wr.heap.size, 0, none⟩ 1 1 [.int .u8 kx] rfl rfl (news_new _ _) (by simp [Value.oneCell']) (by unfold maxLen; omega) (by omega) (by simp; omega) ?_); intro A9 cap9 w3 hown3 hgrow3 hat3)
      have hO3 := Lib.hid (own_congr hown3 rfl (show _ = bytesV (a.take (t + 1)) by rw [HTk.out]))
      have hB3 := Lib.hid ((HB.out.alloc hwr _).grown hgrow3 (by simp; omega) (fun k hk => (HO.out.lt k hk).1))
      clear hown3 hgrow3 hat3
      refine ⟨⟨t + 1, cap9, A9, by omega, rfl, by go_num, hO3, hB3⟩, ?_⟩
      simp [intOf]; omega
    · obtain rfl : t = 32 := by omega
      obtain ⟨g, cap2, hA, hg, hgl⟩ := HO.out.form (by omega)
      cases hA
      have hrg : wr.rangeAt g 0 (bytesV a) := by
        intro i v hi2
        rw [Nat.zero_add]
        have h := HO.out.cells (g := g) rfl i v (by rw [List.take_of_length_le (by rw [HVA.out.2]; omega)]; exact hi2)
        rwa [addr_add] at h
      have kb := bytes_back2 wr g 0 32 cap a HVA.out.2 hrg
      go_wp2
      go_ret
      exact ⟨rfl, hba.out.trans (HB.out.mono (by omega))⟩
end Go.Proofs.YtnpblpbcchminaaGreatDoor
