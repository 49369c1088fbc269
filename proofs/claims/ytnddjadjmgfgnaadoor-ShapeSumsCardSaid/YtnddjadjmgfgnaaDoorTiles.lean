/- cartularylaw07.tiles: of stretches that, put in order, lie one behind the other it answers true. -/
import Derived.Test.YtnddjadjmgfgnaaDoorRows
import Derived.Test.YtnddjadjmgfgnaaDoorMem
import Derived.OwnWalk
import Derived.BigQuiet
import Derived.Deep.QuietTactic
import Derived.Outline
namespace Go.Proofs.YtnddjadjmgfgnaaDoor
open Go.ChangeShapes Go.WideShapes Go.ChangeAt Go.RowKit
set_option linter.unusedVariables false
/-- stretches one behind the other, from a to b -/
def Chain : Int → List (Int × Int) → Int → Prop
  | a, [], b => a = b
  | a, x :: r, b => x.1 = a ∧ a < x.2 ∧ Chain x.2 r b
theorem Chain.le : ∀ {l : List (Int × Int)} {a b : Int}, Chain a l b → a ≤ b
  | [], _, _, h => by have : _ = _ := h; omega
  | x :: r, a, b, h => by have := Chain.le h.2.2; have := h.2.1; omega
theorem Chain.mem : ∀ {l : List (Int × Int)} {a b : Int}, Chain a l b → ∀ x ∈ l, a ≤ x.1 ∧ x.1 < x.2 ∧ x.2 ≤ b
  | [], _, _, _, x, hx => by simp at hx
  | y :: r, a, b, h, x, hx => by
      rcases List.mem_cons.1 hx with e | hx
      · subst e; have := h.1; have := h.2.1; have := Chain.le h.2.2; omega
      · have := Chain.mem h.2.2 x hx; have := h.2.1; omega
theorem Chain.append : ∀ {l : List (Int × Int)} {a b c : Int} {m : List (Int × Int)}, Chain a l b → Chain b m c → Chain a (l ++ m) c
  | [], _, _, _, _, h, k => by have : _ = _ := h; subst this; exact k
  | x :: r, _, _, _, _, h, k => ⟨h.1, h.2.1, Chain.append h.2.2 k⟩
theorem info_bool : (Tryd.prog.info? 4).map (fun i => (i.zero, i.size, i.bytes)) = some (some (.bool false), 1, 1) := by kernel_rfl
/-- the marks: what is marked begins ahead of f -/
def Marks (L : List (Int × Int)) (g : Nat) (f : Int) (w : World) : Prop :=
  ∀ j p, L[j]? = some p → w.frozen? ⟨g, j, none⟩ = false ∧ ∃ u, w.cell? ⟨g, j, none⟩ = some (.bool u) ∧ (u = true → p.1 < f)
theorem Marks.set {L : List (Int × Int)} {g i : Nat} {f f' : Int} {w : World} {q : Int × Int} (h : Marks L g f w) (hi : L[i]? = some q) (hq : q.1 < f') (hf : f ≤ f') : Marks L g f' (w.setCell ⟨g, i, none⟩ (.bool true)) := by
  intro j p hj
  obtain ⟨h1, u, h2, h3⟩ := h j p hj
  refine ⟨by rw [World.frozen?_setCell]; exact h1, ?_⟩
  by_cases e : j = i
  · subst e
    refine ⟨true, World.cell?_setCell_same' _ _ _ (by rw [h2]; rfl), fun _ => ?_⟩
    have : p = q := by rw [hi] at hj; exact (Option.some.inj hj).symm
    rw [this]; exact hq
  · refine ⟨u, ?_, fun hu => by have := h3 hu; omega⟩
    rw [World.cell?_setCell_other _ _ _ _ (by intro e'; exact e (by cases e'; rfl))]; exact h2
set_option maxRecDepth 100000 in
set_option maxHeartbeats 2000000 in
theorem tiles_yes (C L : List (Int × Int)) (fr to : Int) (v : Value) (w : World) (hn : L.length ≤ 1000000) (h0 : 0 ≤ fr) (h1 : to < 18446744073709551616) (hL : Rd w v 2 L.length (spanCells L)) (hC : Chain fr C to) (hp : C.Perm L) :
    Calls Tryd.prog 11 #[v, .int .u64 fr, .int .u64 to] w fun e w' => e = .returned (.bool true) ∧ Below w.heap.size w w' := by
  obtain ⟨_, A, cap, rfl, hA⟩ := hL
  obtain ⟨i0, hi, hz0, hz1, hz2⟩ := info_parts info_bool
  obtain ⟨n, hnn⟩ : ∃ n, L.length = n := ⟨_, rfl⟩
  rw [hnn] at hn hA ⊢
  have HN := Lib.hid hnn
  have HA := Lib.hid hA
  have HP := Lib.hid hp
  have HC := Lib.hid hC
  clear hnn hA hp hC
  go_enter Tryd.func11, Tryd.ntmps11
  go_wp2_with (at_make; refine wpList_make_full _ rfl _ _ 56 rfl w.heap.size 4 i0 (.bool false) 1 Tryd.underlying56 hi hz0 hz1 .i64 .i64 n n n rfl rfl rfl rfl (by rw [hz2]; omega) (by unfold maxLen; omega) (Nat.le_refl _) ?_; intro W hown hgrow)
  have hbW : Hid (Below w.heap.size w W) := Lib.hid ((Below.refl _ _).grown hgrow (Nat.le_refl _) (fun k hk => by cases hk))
  have hM : Hid (Marks L w.heap.size fr W) := Lib.hid (fun j p hj => by
    have hjn : j < n := by rw [← HN.out]; exact (List.getElem?_eq_some_iff.1 hj).1
    refine ⟨hown.frozenAt j, false, ?_, by simp⟩
    rw [hown.cellAt j (by omega)]
    simp [madeCells, hjn, Value.cells, Nat.mod_one])
  clear hown hgrow
  go_loopw [1, 8] (fun f k wr => ∃ (C2 : List (Int × Int)) (f' : Int) (k' : Nat), f = .int .u64 f' ∧ k = .int .i64 k' ∧ k' ≤ n ∧ fr ≤ f' ∧ f' ≤ to ∧ Hid (Chain f' C2 to ∧ k' + C2.length = n ∧ (∀ x ∈ C2, x ∈ L) ∧ (∀ x ∈ L, x.1 < f' ∨ x ∈ C2) ∧ Marks L w.heap.size f' wr ∧ Below w.heap.size w wr)) (fun _ k _ => n - (intOf k).toNat)
  case atStart =>
    exact ⟨C, fr, 0, rfl, rfl, by omega, by omega, HC.out.le, Lib.hid ⟨HC.out, by have := HP.out.length_eq; have := HN.out; omega, fun x hx => HP.out.mem_iff.1 hx, fun x hx => .inr (HP.out.mem_iff.2 hx), hM.out, hbW.out⟩⟩
  case round =>
    obtain ⟨C2, f, k, rfl, rfl, hk, hf0, hf1, HH⟩ := hrel
    by_cases hlt : k < n
    · cases C2 with
      | nil => exfalso; have := HH.out.2.1; simp at this; omega
      | cons c C3 =>
        obtain ⟨c1, c2⟩ := c
        have hcc := HH.out.1
        obtain ⟨hc1, hc2, hch⟩ := hcc
        simp only at hc1 hc2 hch
        subst hc1
        have hle := hch.le
        have HCH := Lib.hid hch
        clear hch
        obtain ⟨g1, rfl, hc1⟩ : ∃ g, A = some ⟨g, 0, none⟩ ∧ ∀ j u, (spanCells L)[j]? = some u → w.cell? ⟨g, j, none⟩ = some u := by
          rcases HA.out with q | q
          · omega
          · exact q
        have HG := Lib.hid hc1
        clear hc1
        obtain ⟨wo, rfl⟩ : ∃ wo : World, wo = wr := ⟨_, rfl⟩
        go_wp2
        go_loopw [1, 9, 10] (fun f' fd i wr => ∃ (i' : Nat) (b : Bool), i = .int .i64 i' ∧ fd = .bool b ∧ i' ≤ n ∧ f' = .int .u64 (if b then c2 else c1) ∧ Hid ((b = false → ∀ j p, j < i' → L[j]? = some p → p.1 ≠ c1) ∧ Marks L w.heap.size (if b then c2 else c1) wr ∧ Below w.heap.size w wr)) (fun _ _ i _ => n - (intOf i).toNat)
        case atStart => exact ⟨0, false, rfl, rfl, by omega, rfl, Lib.hid ⟨fun _ j p hj => by omega, HH.out.2.2.2.2.1, HH.out.2.2.2.2.2⟩⟩
        case round =>
          obtain ⟨i, b, rfl, rfl, hin, rfl, HI⟩ := hrel
          have HC3 := Lib.hid (show ∀ x ∈ L, x.1 < c2 ∨ x ∈ C3 from fun x hx => by
            rcases HH.out.2.2.2.1 x hx with q | q
            · exact .inl (by omega)
            · rcases List.mem_cons.1 q with e | q
              · subst e; exact .inl hc2
              · exact .inr q)
          cases b
          · simp only [Bool.false_eq_true, if_false] at HI
            by_cases hin' : i < n
            · obtain ⟨⟨p, q⟩, hp⟩ : ∃ p, L[i]? = some p := ⟨_, List.getElem?_eq_getElem (by have := HN.out; omega)⟩
              obtain ⟨hfz, u, hu, hu2⟩ := HI.out.2.1 i (p, q) hp
              have hat := spanCells_at L i (p, q) hp
              have a0 := cell_below HI.out.2.2 (HG.out _ _ hat.1) (block_of_cell (HG.out _ _ hat.1))
              have a1 := cell_below HI.out.2.2 (HG.out _ _ hat.2) (block_of_cell (HG.out _ _ hat.2))
              have HPI := Lib.hid hp
              clear hat hp
              by_cases hm : p = c1
              · subst hm
                have hq : q = c2 := by
                  rcases HH.out.2.2.2.1 (p, q) (List.mem_of_getElem? HPI.out) with e | e
                  · simp only at e; omega
                  · rcases List.mem_cons.1 e with e | e
                    · cases e; rfl
                    · have := HCH.out.mem _ e; simp only at this; omega
                subst hq
                have hu' : u = false := by
                  cases u
                  · rfl
                  · have := hu2 rfl; simp only at this; omega
                subst hu'
                have HS : Hid (Marks L w.heap.size q (wr.setCell ⟨w.heap.size, i, none⟩ (.bool true)) ∧ Below w.heap.size w (wr.setCell ⟨w.heap.size, i, none⟩ (.bool true))) :=
                  Lib.hid ⟨HI.out.2.1.set HPI.out hc2 (by omega), HI.out.2.2.setCell (Nat.le_refl _) _⟩
                have a1' : (wr.setCell ⟨w.heap.size, i, none⟩ (.bool true)).cell? ⟨g1, i * 2 + 1, none⟩ = some (.int .u64 q) := by
                  rw [World.cell?_setCell_other _ _ _ _ (by intro e; have hb := block_of_cell (HG.out _ _ (spanCells_at L i _ HPI.out).1); injection e; omega)]; exact a1
                have heq : (p == p) = true := by simp
                clear hu2
                go_wp2
                go_roundw
                case rel => exact ⟨i + 1, true, by go_num, rfl, by omega, rfl, Lib.hid ⟨by simp, by simpa using HS.out.1, HS.out.2⟩⟩
                case measure => simp [intOf]; omega
              · have hne : (p == c1) = false := by simpa using hm
                have HI2 : Hid (∀ j p, j < i + 1 → L[j]? = some p → p.1 ≠ c1) := Lib.hid (fun j x hj hx => by
                  by_cases e : j = i
                  · subst e; rw [HPI.out] at hx; cases hx; exact hm
                  · exact HI.out.1 trivial j x (by omega) hx)
                clear hu2 hm
                cases u
                all_goals
                  go_wp2
                  go_roundw
                  case rel => exact ⟨i + 1, false, by go_num, rfl, by omega, rfl, Lib.hid ⟨fun _ => HI2.out, HI.out.2.1, HI.out.2.2⟩⟩
                  case measure => simp [intOf]; omega
            · exfalso
              have hmem : (c1, c2) ∈ L := HH.out.2.2.1 _ (by simp)
              obtain ⟨j, hj⟩ := List.mem_iff_getElem?.1 hmem
              have hjn : j < n := by rw [← HN.out]; exact (List.getElem?_eq_some_iff.1 hj).1
              exact HI.out.1 trivial j _ (by omega) hj rfl
          · simp only [if_true] at HI
            have HNX : Hid (Chain c2 C3 to ∧ k + 1 + C3.length = n ∧ (∀ x ∈ C3, x ∈ L) ∧ (∀ x ∈ L, x.1 < c2 ∨ x ∈ C3) ∧ Marks L w.heap.size c2 wr ∧ Below w.heap.size w wr) :=
              Lib.hid ⟨HCH.out, by have := HH.out.2.1; simp at this; omega, fun x hx => HH.out.2.2.1 x (List.mem_cons_of_mem _ hx), HC3.out, HI.out.2.1, HI.out.2.2⟩
            by_cases hin' : i < n
            all_goals
              go_wp2
              go_roundw
              case rel => exact ⟨C3, c2, k + 1, rfl, by go_num, by omega, by omega, by omega, Lib.hid HNX.out⟩
              case measure => simp [intOf]; omega
    · have hfe : f = to := by
        cases C2 with
        | nil => exact HH.out.1
        | cons c C3 => exfalso; have := HH.out.2.1; simp at this; omega
      subst hfe
      have HB := Lib.hid HH.out.2.2.2.2.2
      go_wp2
      go_ret
      exact ⟨rfl, HB.out⟩
end Go.Proofs.YtnddjadjmgfgnaaDoor
