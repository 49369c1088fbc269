import Derived.Test.YtdodfeoaioolnaaDoorCoordSpan
import Derived.Test.YtdodfeoaioolnaaDoorPartMem
import Derived.Deep.Cut
import Derived.Maps.OwnSet
import Derived.DeepKeys5
import Derived.Test.YtdodfeoaioolnaaDoorHashAid
import Derived.StillTailTactics
import Derived.Test.YtdodfeoaioolnaaDoorSameLists
import Derived.Carry
/- tile.widest, tile.Of, tile.In: the tile of a tree that lies in a log. No condition. -/
namespace Go.Proofs.YtdodfeoaioolnaaDoor
open Go.ChangeShapes Go.WideShapes Go.ChangeAt Go.RowKit
set_option linter.unusedVariables false
def wideI (l : Int) : Int := if l = 7 then 128 else 256
theorem widest_any (l : Int) (w : World) (h0 : 0 ≤ l) (h1 : l < 256) : Calls Tryd.prog 75 #[.int .u8 l] w fun ev w' => ev = .returned (.int .i64 (wideI l)) ∧ w = w' := by
  by_cases h : l = 7
  · go_enter Tryd.func75, Tryd.ntmps75
    go_wp2
    go_ret
    exact ⟨by simp [wideI, h], rfl⟩
  · go_enter Tryd.func75, Tryd.ntmps75
    go_wp2
    go_ret
    exact ⟨by simp [wideI, h], rfl⟩
attribute [irreducible] wideI
set_option maxRecDepth 100000 in
set_option maxHeartbeats 1000000 in
theorem tile_of (lv ix at_ fs j : Int) (w : World) (h0 : 0 ≤ lv) (h1 : lv ≤ 63) (h2 : 0 ≤ ix) (h3 : ix * 2 ^ lv.toNat = at_) (h4 : at_ + 2 ^ lv.toNat ≤ 9223372036854775808) (hj : lv % 8 = j) (hf : ix * 2 ^ j.toNat = fs) (hf2 : fs < 18446744073709551616) :
    Calls Tryd.prog 60 #[.agg #[.int .u8 lv, .int .u64 ix]] w fun ev w' => ev = .returned (.tuple #[.agg #[.int .u8 (lv / 8), .int .u64 (fs / 256), .int .i64 (wideI (lv / 8))], .int .i64 (fs % 256), .int .i64 (2 ^ j.toNat), .bool true]) ∧ Below w.heap.size w w' := by
  have hf0 : 0 ≤ fs := by rw [← hf]; exact Int.mul_nonneg h2 (Int.le_of_lt (Int.pow_pos (by decide)))
  have HSP := Lib.hid (And.intro h3 h4)
  have hjb : 0 ≤ j ∧ j ≤ 7 := by omega
  have e1 : Hid (IntKind.u64.wrap (ix * 2 ^ j.toNat) = fs) := Lib.hid (by rw [hf]; exact IntWalk.u64_in _ (by omega))
  clear h3 h4 hf
  go_enter Tryd.func60, Tryd.ntmps60
  go_wp2_with fail
  refine (span_tree _ _ _ _ h0 h1 h2 HSP.out.1 HSP.out.2).mono ?_
  rintro ev w1 ⟨rfl, b1⟩
  have c0 := cell_below b1 (cell_alloc (cell_new #[.int .u8 lv, .int .u64 ix] 80 0 (.int .u8 lv) rfl) (.cells #[.int .u8 0, .int .u64 0, .int .i64 0] 84)) (by simp; try omega)
  have c1 := cell_below b1 (cell_alloc (cell_new #[.int .u8 lv, .int .u64 ix] 80 1 (.int .u64 ix) rfl) (.cells #[.int .u8 0, .int .u64 0, .int .i64 0] 84)) (by simp; try omega)
  have d0 := cell_below b1 (cell_new (w := w.alloc (.cells #[.int .u8 lv, .int .u64 ix] 80)) #[.int .u8 0, .int .u64 0, .int .i64 0] 84 0 (.int .u8 0) rfl) (by simp; try omega)
  have d1 := cell_below b1 (cell_new (w := w.alloc (.cells #[.int .u8 lv, .int .u64 ix] 80)) #[.int .u8 0, .int .u64 0, .int .i64 0] 84 1 (.int .u64 0) rfl) (by simp; try omega)
  have d2 := cell_below b1 (cell_new (w := w.alloc (.cells #[.int .u8 lv, .int .u64 ix] 80)) #[.int .u8 0, .int .u64 0, .int .i64 0] 84 2 (.int .i64 0) rfl) (by simp; try omega)
  have f0 := frozen_below b1 (b := w.heap.size + 1) (o := 0) (v := false) (by simp) (by simp; try omega)
  have f1 := frozen_below b1 (b := w.heap.size + 1) (o := 1) (v := false) (by simp) (by simp; try omega)
  have f2 := frozen_below b1 (b := w.heap.size + 1) (o := 2) (v := false) (by simp) (by simp; try omega)
  simp at d0 d1 d2
  have hs1 : w.heap.size < w1.heap.size := by have := b1.size; simp at this; omega
  have hs2 : w.heap.size + 1 < w1.heap.size := by have := b1.size; simp at this; omega
  have HB : Hid (Below w.heap.size w w1) := Lib.hid (((Below.refl _ _).alloc (by simp) _).alloc (by simp) _ |>.trans (b1.mono (by simp; omega)))
  clear b1
  have e1o := e1.out
  have l0 : 0 ≤ lv / 8 ∧ lv / 8 < 256 := by omega
  go_upto_region 8 with (first | (go_at_call 75; refine (widest_any _ _ (by omega) (by omega)).mono ?_; rintro ev w2 ⟨rfl, rfl⟩))
  obtain ⟨wz, hwz⟩ : ∃ z, ((((w1.setCell ⟨w.heap.size + 1, 0, none⟩ (.int .u8 (lv / 8))).setCell ⟨w.heap.size + 1, 1, none⟩ (.int .u64 (fs / 256))).setCell ⟨w.heap.size + 1, 2, none⟩ (.int .i64 0)).setCell ⟨w.heap.size + 1, 2, none⟩ (.int .i64 (wideI (lv / 8)))) = z := ⟨_, rfl⟩
  have z2 : wz.cell? ⟨w.heap.size + 1, 2, none⟩ = some (.int .i64 (wideI (lv / 8))) := by
    rw [← hwz]
    refine World.cell?_setCell_same' _ _ _ ?_
    rw [World.cell?_setCell_same' _ _ _ (by rw [World.cell?_setCell_other _ _ _ _ (by intro e; cases e), World.cell?_setCell_other _ _ _ _ (by intro e; cases e), d2]; rfl)]; rfl
  have z1 : wz.cell? ⟨w.heap.size + 1, 1, none⟩ = some (.int .u64 (fs / 256)) := by
    rw [← hwz, World.cell?_setCell_other _ _ _ _ (by intro e; cases e), World.cell?_setCell_other _ _ _ _ (by intro e; cases e)]
    exact World.cell?_setCell_same' _ _ _ (by rw [World.cell?_setCell_other _ _ _ _ (by intro e; cases e), d1]; rfl)
  have z0 : wz.cell? ⟨w.heap.size + 1, 0, none⟩ = some (.int .u8 (lv / 8)) := by
    rw [← hwz, World.cell?_setCell_other _ _ _ _ (by intro e; cases e), World.cell?_setCell_other _ _ _ _ (by intro e; cases e), World.cell?_setCell_other _ _ _ _ (by intro e; cases e)]
    exact World.cell?_setCell_same' _ _ _ (by rw [d0]; rfl)
  have g0 : wz.frozen? ⟨w.heap.size + 1, 0, none⟩ = false := by rw [← hwz]; simp [f0]
  have g1 : wz.frozen? ⟨w.heap.size + 1, 1, none⟩ = false := by rw [← hwz]; simp [f1]
  have g2 : wz.frozen? ⟨w.heap.size + 1, 2, none⟩ = false := by rw [← hwz]; simp [f2]
  have hsz : w.heap.size + 1 < wz.heap.size := by rw [← hwz]; simpa using hs2
  have HZ : Hid (Below w.heap.size w wz) := Lib.hid (by rw [← hwz]; exact Below.setCell (Below.setCell (Below.setCell (Below.setCell HB.out (by simp) _) (by simp) _) (by simp) _) (by simp) _)
  rw [hwz]
  clear hwz d0 d1 d2 f0 f1 f2 c0 c1
  go_wp2
  obtain ⟨wf, hwf⟩ : ∃ z, ((((wz.setCell ⟨w.heap.size + 1, 0, none⟩ (.int .u8 (lv / 8))).setCell ⟨w.heap.size + 1, 1, none⟩ (.int .u64 (fs / 256))).setCell ⟨w.heap.size + 1, 2, none⟩ (.int .i64 (wideI (lv / 8)))).alloc (.cells #[.int .u64 at_, .int .u64 (at_ + 2 ^ lv.toNat)] 93)) = z := ⟨_, rfl⟩
  have k2 : wf.cell? ⟨w.heap.size + 1, 2, none⟩ = some (.int .i64 (wideI (lv / 8))) := by
    rw [← hwf, World.cell?_alloc_lt _ _ _ (by simpa using hsz)]
    exact World.cell?_setCell_same' _ _ _ (by rw [World.cell?_setCell_other _ _ _ _ (by intro e; cases e), World.cell?_setCell_other _ _ _ _ (by intro e; cases e), z2]; rfl)
  have k1 : wf.cell? ⟨w.heap.size + 1, 1, none⟩ = some (.int .u64 (fs / 256)) := by
    rw [← hwf, World.cell?_alloc_lt _ _ _ (by simpa using hsz), World.cell?_setCell_other _ _ _ _ (by intro e; cases e)]
    exact World.cell?_setCell_same' _ _ _ (by rw [World.cell?_setCell_other _ _ _ _ (by intro e; cases e), z1]; rfl)
  have k0 : wf.cell? ⟨w.heap.size + 1, 0, none⟩ = some (.int .u8 (lv / 8)) := by
    rw [← hwf, World.cell?_alloc_lt _ _ _ (by simpa using hsz), World.cell?_setCell_other _ _ _ _ (by intro e; cases e), World.cell?_setCell_other _ _ _ _ (by intro e; cases e)]
    exact World.cell?_setCell_same' _ _ _ (by rw [z0]; rfl)
  have HF : Below w.heap.size w wf := by
    rw [← hwf]
    exact Below.alloc (Below.setCell (Below.setCell (Below.setCell HZ.out (by simp) _) (by simp) _) (by simp) _) (by simp; omega) _
  have hwr : wrap64 (2 ^ j.toNat) = 2 ^ j.toNat := by
    obtain ⟨m, hm⟩ : ∃ m : Nat, 2 ^ j.toNat = m := ⟨_, rfl⟩
    have hp : m ≤ 2 ^ 7 := by rw [← hm]; exact Nat.pow_le_pow_right (by decide) (by omega)
    have hp0 : (2 : Int) ^ j.toNat = (m : Int) := by rw [← hm]; simp
    rw [hp0]
    exact IntWalk.wrap64_in _ (by omega)
  rw [hwf]
  refine bodyPost_ret (v := .tuple #[.agg #[.int .u8 (lv / 8), .int .u64 (fs / 256), .int .i64 (wideI (lv / 8))], .int .i64 (fs % 256), .int .i64 (2 ^ j.toNat), .bool true]) (by simp [results, Tryd.results60, go_sem, k0, k1, k2, hwr]) rfl ⟨rfl, HF⟩
set_option maxRecDepth 100000 in
set_option maxHeartbeats 1000000 in
theorem tile_in_ok (L I sz nd : Int) (w : World) (h0 : 0 ≤ L) (h1 : L ≤ 7) (h2 : 0 ≤ I) (h3 : sz ≤ 9223372036854775808) (h4 : 0 ≤ sz) (hn : sz / 2 ^ (8 * L).toNat = nd) (h5 : I ≤ nd / 256) (h6 : I * 256 < nd) :
    Calls Tryd.prog 42 #[.int .u8 L, .int .u64 I, .int .u64 sz] w fun ev w' => ev = .returned (.tuple #[.agg #[.int .u8 L, .int .u64 I, .int .i64 (min (nd - I * 256) 256)], .bool true]) ∧ Below w.heap.size w w' := by
  have hp0 : (0 : Int) < 2 ^ (8 * L).toNat := Int.pow_pos (by decide)
  have hnd : nd ≤ 9223372036854775808 := by rw [← hn]; exact Int.le_trans (Int.ediv_le_self _ h4) h3
  clear hp0
  go_enter Tryd.func42, Tryd.ntmps42
  go_wp2
  refine bodyPost_ret (v := .tuple #[.agg #[.int .u8 L, .int .u64 I, .int .i64 (min (nd - I * 256) 256)], .bool true]) (by simp [results, Tryd.results42, go_sem]) rfl ⟨rfl, ?_⟩
  repeat (first | exact Below.refl _ _ | (refine below_drewN ?_) | (refine Below.drew ?_) | (refine Below.alloc ?_ (by simp; try omega) _) | (refine Below.setCell ?_ (by simp; try omega) _))
end Go.Proofs.YtdodfeoaioolnaaDoor

/- The set of tiles that plan.Tiles keeps: a map from tiles to true. No program in sight but its types. -/
namespace Go.Proofs.YtdodfeoaioolnaaDoor
open Go.ChangeShapes Go.WideShapes Go.ChangeAt Go.RowKit
set_option linter.unusedVariables false
theorem atKey_fold_out {H : Type} (u z : DataW H) (k : Lit) : ∀ (acc : List Lit) (m : DataW H), k ∉ acc → (acc.foldl (fun m x => m.put x u) m).atKey k z = m.atKey k z
  | [], m, _ => rfl
  | x :: r, m, h => by
    rw [List.foldl_cons, atKey_fold_out u z k r (m.put x u) (fun q => h (by simp [q])), Maps.atKey_put_other (fun e => h (by simp [e]))]
theorem atKey_fold_in {H : Type} (u z : DataW H) (k : Lit) : ∀ (acc : List Lit) (m : DataW H), Maps.IsMap m → (∀ x ∈ acc, WideAt.IsKeyLit x) → k ∈ acc → (acc.foldl (fun m x => m.put x u) m).atKey k z = u
  | [], m, _, _, h => by simp at h
  | x :: r, m, hm, hk, h => by
    rw [List.foldl_cons]
    by_cases hr : k ∈ r
    · exact atKey_fold_in u z k r (m.put x u) (hm.put x u) (fun y hy => hk y (by simp [hy])) hr
    · have e : k = x := by
        rcases List.mem_cons.1 h with q | q
        · exact q
        · exact absurd q hr
      subst e
      rw [atKey_fold_out u z k r _ hr, Maps.atKey_put_same hm (hk k (by simp))]
theorem wpList_lookup_set {H : Type} {P : Program} (w : World) {ops : Array Oper} {rest : List Oper} {o : Oper} {a : Act} {Q : Exit → Act → World → Prop}
    (hg : o.guard = none) (m x : Operand) (t : TypeId) (hop : o.op = Op.lookup t m x false)
    (k e : TypeId) (K : Maps.Keyed P k) (ht : P.underlying t = some (.map k e)) (he : P.underlying e = some .bool) (hz : (zeroValue e).run P w = .ok (.bool false) w) (b n : Nat) (D : DataW H)
    (hm : a.eval m = .map (some b)) (hown : w.ownsMap P k (plainElem P e) b n D) (key : Value) (kl : Lit) (hx : a.eval x = key) (hkey : keyOf P k key = some kl) (bv : Bool) (hat : D.atKey kl (.lit (.bool false)) = .lit (.bool bv))
    (hK : wpList P ops Q rest (a.put o.dst (.bool bv)) w) : wpList P ops Q (o :: rest) a w := by
  refine wpList_plain hg fun K' hK' => ?_
  obtain ⟨v, ps, hrun, hv⟩ := hown.lookup K ht hz (plainElem_bool he false) hkey
  rw [hat] at hv
  have hvb : v = .bool bv := by
    unfold plainElem at hv
    rw [he] at hv
    cases v <;> simp at hv
    rw [hv.1]
  subst hvb
  unfold Oper.wp
  simp [execOp, hop, hm, hx, hrun, Result.andThen]
  exact hK' _ _ hK
def tileV (t : Nat × Nat × Nat) : Value := .agg #[.int .u8 (t.1 : Int), .int .u64 (t.2.1 : Int), .int .i64 (t.2.2 : Int)]
def TB (t : Nat × Nat × Nat) : Prop := t.1 ≤ 7 ∧ t.2.1 < 18446744073709551616 ∧ t.2.2 ≤ 256
def keyT (t : Nat × Nat × Nat) : Lit := .string (keyBytes [.int .u8 (t.1 : Int), .int .u64 (t.2.1 : Int), .int .i64 (t.2.2 : Int)])
theorem laidOut_all : laidOutB Tryd.prog = true := by kernel_rfl
theorem tile_law : Maps.Keyed Tryd.prog 84 := Maps.Keyed.of_law (deep_law_laid laidOut_all (m := 210 + 1) (by decide) (of_decide_eq_true (by kernel_rfl)) (by kernel_rfl) (by kernel_rfl))
set_option maxRecDepth 100000 in
theorem keyT_of (t : Nat × Nat × Nat) (h : TB t) : keyOf Tryd.prog 84 (tileV t) = some (keyT t) := by
  have hk : Tryd.prog.keyType 84 = true := by kernel_rfl
  have hn : Tryd.prog.types.size = 210 := by kernel_rfl
  have hc : Tryd.prog.cellsOf 84 = 3 := by kernel_rfl
  have c1 : Tryd.prog.cellsOf 5 = 1 := by kernel_rfl
  have c2 : Tryd.prog.cellsOf 39 = 1 := by kernel_rfl
  have c3 : Tryd.prog.cellsOf 3 = 1 := by kernel_rfl
  have w1 : (Lit.int .u8 (t.1 : Int)).wf = true := by have := h.1; simp [Lit.wf, IntKind.min, IntKind.max, IntKind.signed, IntKind.bits]; omega
  have w2 : (Lit.int .u64 (t.2.1 : Int)).wf = true := by have := h.2.1; simp [Lit.wf, IntKind.min, IntKind.max, IntKind.signed, IntKind.bits]; omega
  have w3 : (Lit.int .i64 (t.2.2 : Int)).wf = true := by have := h.2.2; simp [Lit.wf, IntKind.min, IntKind.max, IntKind.signed, IntKind.bits]; omega
  have u1 := Tryd.underlying84
  have u2 := Tryd.underlying5
  have u3 := Tryd.underlying39
  have u4 := Tryd.underlying3
  unfold keyOf
  rw [u1]
  simp only [hk, Bool.true_and]
  rw [if_pos (show (tileV t).formed Tryd.prog 84 = true by unfold Value.formed; simp only [u1, tileV, hc]; rfl)]
  obtain ⟨f, hf⟩ : ∃ f, Tryd.prog.types.size = f + 1 := ⟨210 - 1, by rw [hn]⟩
  rw [hf]
  have hl : Tryd.prog.keyLits (f + 1 + 1) 84 (tileV t).cells.toList = some [.int .u8 (t.1 : Int), .int .u64 (t.2.1 : Int), .int .i64 (t.2.2 : Int)] := by
    have k1 : Tryd.prog.keyLits (f + 1) 5 [.int .u8 (t.1 : Int)] = some [.int .u8 (t.1 : Int)] := by unfold Program.keyLits; simp only [u2]; rw [if_pos ⟨trivial, w1⟩]
    have k2 : Tryd.prog.keyLits (f + 1) 39 [.int .u64 (t.2.1 : Int)] = some [.int .u64 (t.2.1 : Int)] := by unfold Program.keyLits; simp only [u3]; rw [if_pos ⟨trivial, w2⟩]
    have k3 : Tryd.prog.keyLits (f + 1) 3 [.int .i64 (t.2.2 : Int)] = some [.int .i64 (t.2.2 : Int)] := by unfold Program.keyLits; simp only [u4]; rw [if_pos ⟨trivial, w3⟩]
    unfold Program.keyLits
    simp only [u1, tileV, Value.cells, hc]
    simp [c1, c2, c3, k1, k2, k3]
  rw [hl]
  rfl
theorem keyT_lit (t : Nat × Nat × Nat) : WideAt.IsKeyLit (keyT t) := trivial
theorem keyT_inj {t s : Nat × Nat × Nat} (ht : TB t) (hs : TB s) (h : keyT t = keyT s) : t = s := by
  have := tile_law.inj (keyT_of t ht) (h ▸ keyT_of s hs)
  unfold tileV at this
  simp at this
  obtain ⟨a, b, c⟩ := t
  obtain ⟨d, e, f⟩ := s
  simp at this ⊢
  omega
def setT (out : List (Nat × Nat × Nat)) : DataW Unit := Maps.setOf (.lit (.bool true)) (out.map keyT)
theorem setT_in {out : List (Nat × Nat × Nat)} {t : Nat × Nat × Nat} (h : t ∈ out) : (setT out).atKey (keyT t) (.lit (.bool false)) = .lit (.bool true) :=
  atKey_fold_in _ _ _ _ _ Maps.isMap_empty (fun x hx => by obtain ⟨y, _, rfl⟩ := List.mem_map.1 hx; exact keyT_lit y) (List.mem_map.2 ⟨t, h, rfl⟩)
theorem setT_out {out : List (Nat × Nat × Nat)} {t : Nat × Nat × Nat} (ht : TB t) (hb : ∀ s ∈ out, TB s) (h : t ∉ out) : (setT out).atKey (keyT t) (.lit (.bool false)) = .lit (.bool false) := by
  unfold setT Maps.setOf
  rw [atKey_fold_out _ _ _ _ _ (fun q => by
    obtain ⟨y, hy, e⟩ := List.mem_map.1 q
    have := keyT_inj (hb y hy) ht e
    subst this
    exact h hy)]
  rfl
theorem setT_snoc (out : List (Nat × Nat × Nat)) (t : Nat × Nat × Nat) : setT (out ++ [t]) = (setT out).put (keyT t) (.lit (.bool true)) := by
  unfold setT
  rw [List.map_append, List.map_singleton, Maps.setOf_snoc]
theorem setT_nil : setT [] = .map [] := rfl
attribute [irreducible] setT keyT
end Go.Proofs.YtdodfeoaioolnaaDoor

/- plan.Tiles's closure: one tree that lies in the log. No condition. -/
namespace Go.Proofs.YtdodfeoaioolnaaDoor
open Go.ChangeShapes Go.WideShapes Go.ChangeAt Go.RowKit
set_option linter.unusedVariables false
theorem info_tile : (Tryd.prog.info? 84).map (fun i => (i.zero, i.size, i.bytes)) = some (some (.agg #[.int .u8 0, .int .u64 0, .int .i64 0]), 3, 24) := by kernel_rfl
theorem zero_bool (w : World) : (zeroValue 4).run Tryd.prog w = .ok (.bool false) w := by kernel_rfl
/-- what plan.Tiles keeps while it goes through the trees: the size, the set, the list -/
structure TInv (base Bs Bm Bo M size : Nat) (out : List (Nat × Nat × Nat)) (v : Value) (w : World) : Prop where
  cs : w.cell? ⟨Bs, 0, none⟩ = some (.int .u64 (size : Int))
  cm : w.cell? ⟨Bm, 0, none⟩ = some (.map (some M))
  co : w.cell? ⟨Bo, 0, none⟩ = some v
  fo : w.frozen? ⟨Bo, 0, none⟩ = false
  own : w.ownsRow base 84 3 v out.length (tileCells out)
  mp : w.ownsMap Tryd.prog 84 (plainElem Tryd.prog 4) M out.length (setT out)
  tb : ∀ t ∈ out, TB t
  lo : Bs < base ∧ Bm < base ∧ Bo < base ∧ M < base ∧ base ≤ w.heap.size
  ne : Bs ≠ Bo ∧ Bs ≠ M ∧ Bm ≠ Bo ∧ Bm ≠ M ∧ Bo ≠ M
def addT (size : Nat) (c : Nat × Nat) (out : List (Nat × Nat × Nat)) : List (Nat × Nat × Nat) := if tileT size c ∈ out then out else out ++ [tileT size c]
/-- behind one tree -/
def TStep (base Bs Bm Bo M size : Nat) (out : List (Nat × Nat × Nat)) (w : World) (ev : Ending) (w' : World) : Prop :=
  ev = .returned .nilIface ∧ ∃ v, TInv base Bs Bm Bo M size out v w' ∧ But (fun k => k = Bo ∨ k = M ∨ base ≤ k) w w'
theorem tb_of {size : Nat} {c : Nat × Nat} (h : InLog size c) (hs : size ≤ 9223372036854775808) : TB (tileT size c) := by
  have h1 := tile_in h
  have h2 : size / 2 ^ (8 * tlev c) ≤ size := Nat.div_le_self _ _
  refine ⟨?_, ?_, ?_⟩
  · show tlev c ≤ 7
    have := h.1; unfold tlev; omega
  · show tidx c < _
    omega
  · show wideN _ _ _ ≤ 256
    unfold wideN; omega
set_option maxRecDepth 100000 in
set_option maxHeartbeats 4000000 in
theorem tiles_step (base Bs Bm Bo M size : Nat) (out : List (Nat × Nat × Nat)) (v : Value) (c : Nat × Nat) (w : World) (hI : TInv base Bs Bm Bo M size out v w) (hc : InLog size c) (hs : size ≤ 9223372036854775808) (hn : out.length ≤ 2000000) :
    Calls Tryd.prog 59 #[.agg #[.int .u8 (c.1 : Int), .int .u64 (c.2 : Int)], .pointer (some ⟨Bs, 0, none⟩), .pointer (some ⟨Bm, 0, none⟩), .pointer (some ⟨Bo, 0, none⟩)] w (TStep base Bs Bm Bo M size (addT size c out) w) := by
  obtain ⟨i0, hi, hz0, hz1, hz2⟩ := info_parts info_tile
  obtain ⟨lv, hlv⟩ : ∃ x : Int, (c.1 : Int) = x := ⟨_, rfl⟩
  obtain ⟨ix, hix⟩ : ∃ x : Int, (c.2 : Int) = x := ⟨_, rfl⟩
  obtain ⟨sz, hsz⟩ : ∃ x : Int, (size : Int) = x := ⟨_, rfl⟩
  obtain ⟨p, hp⟩ : ∃ p : Nat, 2 ^ c.1 = p := ⟨_, rfl⟩
  have hin := tile_in hc
  have htb := tb_of hc hs
  have hp0 : 0 < p := by rw [← hp]; exact Nat.two_pow_pos _
  have hPI : (2 : Int) ^ lv.toNat = (p : Int) := by rw [← hlv, Int.toNat_natCast, ← hp]; simp
  have hc2 : (c.2 + 1) * p ≤ size := by have := hc.2; rwa [hp] at this
  obtain ⟨at_, hat⟩ : ∃ a : Int, ix * 2 ^ lv.toNat = a := ⟨_, rfl⟩
  have hatN : at_ = ((c.2 * p : Nat) : Int) := by rw [← hat, hPI, ← hix]; simp
  have hend : at_ + 2 ^ lv.toNat ≤ sz := by rw [hPI, hatN, ← hsz]; rw [Nat.add_mul, Nat.one_mul] at hc2; omega
  have hjn : (lv % 8).toNat = c.1 % 8 := by omega
  have hfs : ix * 2 ^ (lv % 8).toNat = ((tidx c * 256 + tat c : Nat) : Int) := by
    rw [hjn, ← hix]
    have : tidx c * 256 + tat c = c.2 * 2 ^ (c.1 % 8) := by unfold tidx tat; omega
    rw [this]; simp
  obtain ⟨fs, hfsn⟩ : ∃ f : Int, ((tidx c * 256 + tat c : Nat) : Int) = f := ⟨_, rfl⟩
  rw [hfsn] at hfs
  have hnd : (size : Int) / 2 ^ (8 * (lv / 8)).toNat = ((size / 2 ^ (8 * tlev c) : Nat) : Int) := by
    rw [show (8 * (lv / 8)).toNat = 8 * tlev c by unfold tlev; omega]
    simp
  obtain ⟨nd, hndn⟩ : ∃ f : Int, ((size / 2 ^ (8 * tlev c) : Nat) : Int) = f := ⟨_, rfl⟩
  rw [hsz, hndn] at hnd
  have hsl := Nat.div_le_self size (2 ^ (8 * tlev c))
  have htat : tat c < 256 := by unfold tat; omega
  have hfd : fs / 256 = (tidx c : Int) := by omega
  have HV : Hid (tileV (tileT size c) = .agg #[.int .u8 (lv / 8), .int .u64 (fs / 256), .int .i64 (min (nd - fs / 256 * 256) 256)]) := Lib.hid (by
    rw [hfd]
    unfold tileV tileT wideN
    simp only
    have e1 : ((tlev c : Nat) : Int) = lv / 8 := by unfold tlev; omega
    have e2 : ((min (size / 2 ^ (8 * tlev c) - tidx c * 256) 256 : Nat) : Int) = min (nd - (tidx c : Int) * 256) 256 := by omega
    rw [e1, e2])
  have q1 : 0 ≤ lv ∧ lv ≤ 63 := by have := hc.1; omega
  have q2 : 0 ≤ ix := by omega
  have q3 : sz ≤ 9223372036854775808 ∧ 0 ≤ sz := by omega
  have q4 : 0 ≤ fs ∧ fs < 18446744073709551616 := by omega
  have q5 : fs / 256 ≤ nd / 256 ∧ fs / 256 * 256 < nd := by omega
  have HT := Lib.hid htb
  have HI := Lib.hid hI
  have cs := hI.cs
  have cm := hI.cm
  have co := hI.co
  rw [hsz] at cs
  have l1 : Bs < w.heap.size := by have := hI.lo; omega
  have l2 : Bm < w.heap.size := by have := hI.lo; omega
  have l3 : Bo < w.heap.size := by have := hI.lo; omega
  have HP : Hid (ix * 2 ^ lv.toNat = at_ ∧ at_ + 2 ^ lv.toNat ≤ 9223372036854775808) := Lib.hid ⟨hat, by omega⟩
  have HN : Hid (sz / 2 ^ (8 * (lv / 8)).toNat = nd ∧ ix * 2 ^ (lv % 8).toNat = fs) := Lib.hid ⟨hnd, hfs⟩
  obtain ⟨en, hen⟩ : ∃ x : Int, at_ + 2 ^ lv.toNat = x := ⟨_, rfl⟩
  rw [hen] at hend
  have HE := Lib.hid hen
  have HSZ := Lib.hid hsz
  have HNN := Lib.hid hn
  rw [hlv, hix]
  clear hin htb hp hp0 hPI hc2 hat hatN hjn hfs hfsn hnd hndn hsl htat hfd hI hc hs hn hlv hix hsz hen
  go_enter Tryd.func59, Tryd.ntmps59
  go_wp2_with fail
  refine (span_tree lv ix at_ _ q1.1 q1.2 q2 HP.out.1 HP.out.2).mono ?_
  rintro ev w1 ⟨rfl, b1⟩
  rw [HE.out]
  have c0 := cell_below b1 (cell_new #[.int .u8 lv, .int .u64 ix] 80 0 (.int .u8 lv) rfl) (by simp)
  have c1 := cell_below b1 (cell_new #[.int .u8 lv, .int .u64 ix] 80 1 (.int .u64 ix) rfl) (by simp)
  have cs := cell_below b1 (cell_alloc cs (.cells #[.int .u8 lv, .int .u64 ix] 80)) (by simp; omega)
  have hs1 : w.heap.size < w1.heap.size := by have := b1.size; simp at this; omega
  have hs0 : Bs < w1.heap.size := by omega
  have B1 : Hid (Below w.heap.size w w1) := Lib.hid ((((Below.refl _ _).alloc (Nat.le_refl _) _)).trans (b1.mono (by simp)))
  clear b1
  go_upto_region 4 with fail
  obtain ⟨wa, hwa⟩ : ∃ z, w1.alloc (.cells #[.int .u64 at_, .int .u64 en] 93) = z := ⟨_, rfl⟩
  have c0 := cell_alloc c0 (.cells #[.int .u64 at_, .int .u64 en] 93)
  have c1 := cell_alloc c1 (.cells #[.int .u64 at_, .int .u64 en] 93)
  have cs := cell_alloc cs (.cells #[.int .u64 at_, .int .u64 en] 93)
  have hs2 : w1.heap.size + 1 = wa.heap.size := by rw [← hwa]; simp
  have B2 : Hid (Below w.heap.size w wa) := Lib.hid (by rw [← hwa]; exact Below.alloc B1.out (by omega) _)
  rw [hwa] at c0 c1 cs ⊢
  clear hwa B1
  go_wp2_with fail
  refine (tile_of lv ix at_ fs (lv % 8) _ q1.1 q1.2 q2 HP.out.1 HP.out.2 rfl HN.out.2 q4.2).mono ?_
  rintro ev w3 ⟨rfl, b3⟩
  have cs := cell_below b3 cs (by omega)
  have hs3 := b3.size
  have B3 : Hid (Below w.heap.size w w3) := Lib.hid (B2.out.trans (b3.mono (by omega)))
  clear b3 c0 c1 B2
  go_upto_region 7 with fail
  obtain ⟨wb, hwb⟩ : ∃ z, w3.alloc (.cells #[.int .u8 (lv / 8), .int .u64 (fs / 256), .int .i64 (wideI (lv / 8))] 84) = z := ⟨_, rfl⟩
  have cs := cell_alloc cs (.cells #[.int .u8 (lv / 8), .int .u64 (fs / 256), .int .i64 (wideI (lv / 8))] 84)
  have t0 : wb.heap[w3.heap.size]? = some (.cells #[.int .u8 (lv / 8), .int .u64 (fs / 256), .int .i64 (wideI (lv / 8))] 84 (0, 0)) := by rw [← hwb]; exact heap_alloc_new _ _
  have d0 : wb.cell? ⟨w3.heap.size, 0, none⟩ = some (.int .u8 (lv / 8)) := by rw [cell_of_row _ _ 0 _ 84 (0, 0) t0]; rfl
  have d1 : wb.cell? ⟨w3.heap.size, 1, none⟩ = some (.int .u64 (fs / 256)) := by rw [cell_of_row _ _ 1 _ 84 (0, 0) t0]; rfl
  have hs4 : w3.heap.size + 1 = wb.heap.size := by rw [← hwb]; simp
  have B4 : Hid (Below w.heap.size w wb) := Lib.hid (by rw [← hwb]; exact Below.alloc B3.out (by omega) _)
  rw [hwb] at cs ⊢
  have T0 := Lib.hid t0
  clear hwb B3 t0
  go_wp2_with fail
  refine (tile_in_ok (lv / 8) (fs / 256) sz nd _ (by omega) (by omega) (by omega) q3.1 q3.2 HN.out.1 q5.1 q5.2).mono ?_
  rintro ev w5 ⟨rfl, b5⟩
  obtain ⟨wd, hwd⟩ : ∃ x : Int, min (nd - fs / 256 * 256) 256 = x := ⟨_, rfl⟩
  rw [hwd]
  have HV2 : Hid (tileV (tileT size c) = .agg #[.int .u8 (lv / 8), .int .u64 (fs / 256), .int .i64 wd]) := Lib.hid (by rw [← hwd]; exact HV.out)
  have T5 := Lib.hid ((b5.block _ (by omega)).trans T0.out)
  have hs5 := b5.size
  have B5 : Hid (Below w.heap.size w w5) := Lib.hid (B4.out.trans (b5.mono (by omega)))
  clear b5 cs d0 d1 T0 B4 HV hwd
  have HI3 : Hid ((Tryd.prog.info? 84).map (·.size) = some (#[Value.int .u8 (lv / 8), .int .u64 (fs / 256), .int .i64 wd]).size) := Lib.hid (by kernel_rfl)
  go_upto_region 10 with (first | (refine wpList_store_row_any rfl 84 _ _ rfl w3.heap.size #[.int .u8 (lv / 8), .int .u64 (fs / 256), .int .i64 wd] rfl rfl 84 _ T5.out HI3.out rfl (by simp [Value.oneCell']) ?_; intro wq hbq hrq hsq))
  have hs6 : w.heap.size < w3.heap.size := by omega
  have hs7 : w3.heap.size < wq.heap.size := by omega
  have B6 : Hid (Below w.heap.size w wq) := Lib.hid (B5.out.trans (hbq.to_below (by omega) (fun k hk q => by omega)))
  have d0 : wq.cell? ⟨w3.heap.size, 0, none⟩ = some (.int .u8 (lv / 8)) := by rw [cell_of_row _ _ 0 _ 84 (0, 0) hrq]; rfl
  have d1 : wq.cell? ⟨w3.heap.size, 1, none⟩ = some (.int .u64 (fs / 256)) := by rw [cell_of_row _ _ 1 _ 84 (0, 0) hrq]; rfl
  have d2 : wq.cell? ⟨w3.heap.size, 2, none⟩ = some (.int .i64 wd) := by rw [cell_of_row _ _ 2 _ 84 (0, 0) hrq]; rfl
  have cm := cell_below B6.out cm (by omega)
  have co := cell_below B6.out co (by omega)
  have HQ := Lib.hid hrq
  clear hbq hrq hsq B5 T5
  have hIq : TInv base Bs Bm Bo M size out v wq := by
    have h := HI.out
    have hb := B6.out
    have hl := h.lo
    exact ⟨cell_below hb h.cs (by omega), cell_below hb h.cm (by omega), cell_below hb h.co (by omega), frozen_below hb h.fo (by omega), own_below h.own hb (Nat.le_refl _), h.mp.kept (row := none) ⟨hb.os, hb.tape, hb.output, hb.size, fun k hk _ => hb.block k (by omega)⟩ (by simp), h.tb, by have := hb.size; omega, h.ne⟩
  have HQI := Lib.hid hIq
  have hown := hIq.own
  have hmap := hIq.mp
  have hkey : keyOf Tryd.prog 84 (.agg #[.int .u8 (lv / 8), .int .u64 (fs / 256), .int .i64 wd]) = some (keyT (tileT size c)) := by rw [← HV2.out]; exact keyT_of _ HT.out
  clear hIq
  by_cases hmem : tileT size c ∈ out
  · have hat := setT_in hmem
    go_wp2_with (first | (at_lookup; refine wpList_lookup_set _ rfl _ _ 110 rfl 84 4 tile_law Tryd.underlying110 Tryd.underlying4 (zero_bool _) M _ _ rfl hmap _ _ rfl hkey true hat ?_))
    go_ret
    refine ⟨rfl, v, ?_, ?_⟩
    · unfold addT; rw [if_pos hmem]; exact HQI.out
    · have hb := B6.out
      exact ⟨hb.os, hb.tape, hb.output, hb.size, fun k hk _ => hb.block k hk⟩
  · have hat := setT_out HT.out HI.out.tb hmem
    have hn := HNN.out
    go_upto_region 12 with (first | (at_lookup; refine wpList_lookup_set _ rfl _ _ 110 rfl 84 4 tile_law Tryd.underlying110 Tryd.underlying4 (zero_bool _) M _ _ rfl hmap _ _ rfl hkey false hat ?_) | (at_mapUpdate; refine wpList_mapUpdate_own _ rfl _ _ _ 110 rfl 84 4 tile_law Tryd.underlying110 _ M _ _ rfl hmap (by unfold maxLen; omega) _ _ (keyT (tileT size c)) rfl rfl hkey _ [] (plainElem_bool Tryd.underlying4 true) ?_; intro wm hmm hgm))
    have hlo := HI.out.lo
    have hne := HI.out.ne
    have hcell : ∀ (b o : Nat) (u : Value), b ≠ M → wq.cell? ⟨b, o, none⟩ = some u → wm.cell? ⟨b, o, none⟩ = some u := fun b o u hb hu =>
      (World.cell?_of_block (a := ⟨b, o, none⟩) (hgm.block b (block_of_cell hu) (fun e => hb (by injection e)))).trans hu
    have co := hcell _ _ _ (by omega) co
    have d0 := hcell _ _ _ (by omega) d0
    have d1 := hcell _ _ _ (by omega) d1
    have d2 := hcell _ _ _ (by omega) d2
    have hvM : ∀ g, v.ownBlock = some g → g ≠ M := fun g hg e => by have := (HQI.out.own.lt g hg).1; omega
    have hown2 : wm.ownsRow base 84 3 v out.length (tileCells out) := HQI.out.own.kept hgm (by
      cases e : v.ownBlock with
      | none => exact .inl rfl
      | some g => exact .inr (fun q => hvM g e (by injection q)))
    have hsm := hgm.size
    have hbs : base ≤ wm.heap.size := by have := HQI.out.lo; omega
    have HM := Lib.hid (And.intro hmm hgm)
    have HC := Lib.hid hcell
    have f9 : wm.frozen? ⟨Bo, 0, none⟩ = false := (World.frozen?_of_block (a := ⟨Bo, 0, none⟩) (hgm.block Bo (by have := HQI.out.lo; omega) (fun e => by injection e; omega))).trans HQI.out.fo
    have HLO := Lib.hid (And.intro hlo hne)
    clear hmm hgm hmap hkey hat hcell hlo hne
    have lw : w3.heap.size < wm.heap.size := by omega
    have lb : Bo < wm.heap.size := block_of_cell co
    have hvB : some Bo ≠ v.ownBlock := own_ne_low hown2 (by have := HLO.out; omega)
    go_wp2_with (at_builtin; refine wpList_append_lies _ rfl _ _ 76 rfl base 84 i0 (.agg #[.int .u8 0, .int .u64 0, .int .i64 0]) 3 24 Tryd.underlying76 hi hz0 hz1 hz2 rfl (by decide) v _ _ rfl (hown2.alloc _) ⟨wm.heap.size, 0, none⟩ 1 1 _ rfl rfl (news_new _ _) (by simp [Value.oneCell']) (by decide) (by unfold maxLen; omega) (by omega) (by simp; omega) _ rfl ?_; intro g9 cap9 w9 hown9 hgrow9 hat9 hlt9; have c9 := (World.cell?_of_block (a := ⟨Bo, 0, none⟩) (hgrow9.block Bo (by simp; omega) hvB)).trans (cell_alloc co _); have e9 := (World.frozen?_of_block (a := ⟨Bo, 0, none⟩) (hgrow9.block Bo (by simp; omega) hvB)).trans (frozen_alloc f9 lb _))
    go_ret
    obtain ⟨⟨lo1, lo2, lo3, lo4, lo5⟩, ne1, ne2, ne3, ne4, ne5⟩ := HLO.out
    have hwq : wq.heap.size ≤ wm.heap.size := hsm
    have hww : w.heap.size ≤ wq.heap.size := B6.out.size
    have hg9s := hgrow9.size
    simp only [World.size_alloc] at hg9s hat9
    have hvb : ∀ k, k < base → some k ≠ v.ownBlock := fun k hk => own_ne_low hown2 hk
    have hF : But (fun k => k = Bo ∨ k = M ∨ base ≤ k) w (w9.setCell ⟨Bo, 0, none⟩ (.slice (some ⟨g9, 0, none⟩) (out.length + 1) cap9)) := by
      refine ⟨?_, ?_, ?_, ?_, ?_⟩
      · exact hgrow9.os.trans (HM.out.2.os.trans B6.out.os)
      · exact hgrow9.tape.trans (HM.out.2.tape.trans B6.out.tape)
      · exact hgrow9.output.trans (HM.out.2.output.trans B6.out.output)
      · simp; omega
      · intro k hk hS
        have hk1 : k ≠ Bo := fun e => hS (.inl e)
        have hk2 : k ≠ M := fun e => hS (.inr (.inl e))
        have hk3 : k < base := by rcases Nat.lt_or_ge k base with q | q; · exact q
                                  · exact absurd (.inr (.inr q)) hS
        rw [Below.heap_setCell _ _ _ _ hk1, hgrow9.block k (by simp; omega) (hvb k hk3), ((Below.refl _ _).alloc (Nat.le_refl _) _).block k (by omega), HM.out.2.block k (by omega) (fun e => hk2 (by injection e)), B6.out.block k hk]
    have hg9 : Bo ≠ g9 := by
      rcases hat9 with q | q
      · intro e; subst e; exact hvb _ lo3 q.symm
      · omega
    have h9 := HI.out
    refine ⟨rfl, .slice (some ⟨g9, 0, none⟩) (out.length + 1) cap9, ?_, hF⟩
    have eadd : addT size c out = out ++ [tileT size c] := by unfold addT; rw [if_neg hmem]
    have ecell : tileCells out ++ [Value.int .u8 (lv / 8), .int .u64 (fs / 256), .int .i64 wd] = tileCells (out ++ [tileT size c]) := by
      rw [tileCells_append]
      have := HV2.out
      unfold tileV at this
      injection this with this
      have := congrArg Array.toList this
      simp only at this
      rw [← this]; rfl
    rw [eadd]
    refine ⟨?_, ?_, ?_, ?_, ?_, ?_, ?_, ⟨lo1, lo2, lo3, lo4, by have := hF.size; omega⟩, ⟨ne1, ne2, ne3, ne4, ne5⟩⟩
    · exact (World.cell?_of_block (a := ⟨Bs, 0, none⟩) (hF.same Bs (by omega) (fun q => by rcases q with q | q | q <;> omega))).trans h9.cs
    · exact (World.cell?_of_block (a := ⟨Bm, 0, none⟩) (hF.same Bm (by omega) (fun q => by rcases q with q | q | q <;> omega))).trans h9.cm
    · exact World.cell?_setCell_same' _ _ _ (by rw [c9]; rfl)
    · simpa using e9
    · exact own_setCell (own_congr hown9 (by simp) ecell) (by simp [Value.ownBlock]; omega) _
    · rw [setT_snoc, List.length_append, List.length_singleton]
      refine World.ownsMap.setCell ?_ (by simpa using Ne.symm ne5) _
      exact (HM.out.1.alloc _).kept hgrow9 (hvb M lo4)
    · intro t ht
      rcases List.mem_append.1 ht with q | q
      · exact h9.tb t q
      · simp at q; subst q; exact HT.out
end Go.Proofs.YtdodfeoaioolnaaDoor

/- plan.each with plan.Tiles's closure: all trees of parts, each of which lies in the log. No condition. -/
namespace Go.Proofs.YtdodfeoaioolnaaDoor
open Go.ChangeShapes Go.WideShapes Go.ChangeAt Go.RowKit
set_option linter.unusedVariables false
theorem tilesF_snoc (size : Nat) (l : List (Nat × Nat)) (c : Nat × Nat) (out : List (Nat × Nat × Nat)) : tilesF size (l ++ [c]) out = addT size c (tilesF size l out) := by rw [tilesF_append]; rfl
def AllIn (size : Nat) (ps : List (List (Nat × Nat))) : Prop := ∀ p ∈ ps, ∀ c ∈ p, InLog size c
/-- behind all trees -/
def TEnd (base Bs Bm Bo M size : Nat) (out : List (Nat × Nat × Nat)) (w : World) (ev : Ending) (w' : World) : Prop := TStep base Bs Bm Bo M size out w ev w'
theorem take_next {α : Type} {l : List α} {k : Nat} {x : α} (h : l[k]? = some x) : l.take (k + 1) = l.take k ++ [x] := by
  rw [List.take_add_one, h]; rfl
set_option maxRecDepth 100000 in
set_option maxHeartbeats 4000000 in
theorem each_ok (base Bs Bm Bo M size : Nat) (out : List (Nat × Nat × Nat)) (v va : Value) (ps : List (List (Nat × Nat))) (w0 w : World) (hI : TInv base Bs Bm Bo M size out v w) (hP : PRd w0 va ps) (hw : Below w0.heap.size w0 w) (hlo : w0.heap.size ≤ Bo ∧ w0.heap.size ≤ M ∧ w0.heap.size ≤ base)
    (hc : AllIn size ps) (hs : size ≤ 9223372036854775808) (hn : out.length + ps.flatten.length ≤ 2000000) (hps : ps.length ≤ 2000000) :
    Calls Tryd.prog 58 #[va, .func (.func 59) #[] #[.pointer (some ⟨Bs, 0, none⟩), .pointer (some ⟨Bm, 0, none⟩), .pointer (some ⟨Bo, 0, none⟩)]] w (TEnd base Bs Bm Bo M size (tilesF size ps.flatten out) w) := by
  obtain ⟨S, hS⟩ : ∃ S : Nat → Prop, S = fun k => k = Bo ∨ k = M ∨ base ≤ k := ⟨_, rfl⟩
  have HS := Lib.hid hS
  have hPb : ∀ wr, But S w wr → Below w0.heap.size w0 wr ∧ w.heap.size ≤ wr.heap.size := fun wr hb => by
    have : Below w0.heap.size w0 wr := hw.trans (hb.to_below hw.size (fun k hk q => by rw [hS] at q; rcases q with q | q | q <;> omega))
    exact ⟨this, hb.size⟩
  have HP := Lib.hid hPb
  obtain ⟨vs, ⟨hvl, A, cap, hva, hvc⟩, hvp⟩ := hP
  subst hva
  obtain ⟨n, hnn⟩ : ∃ n, ps.length = n := ⟨_, rfl⟩
  have HNN := Lib.hid hnn
  rw [hnn] at hps hvc
  rw [hnn]
  have HVC := Lib.hid hvc
  have HVP := Lib.hid hvp
  have HA := Lib.hid hc
  have HB := Lib.hid (And.intro hs hn)
  have HI := Lib.hid hI
  clear hPb hvl hvc hvp hc hs hn hI hw hlo hS hnn
  go_enter Tryd.func58, Tryd.ntmps58
  go_wp2
  go_loopw [12] (fun i wr => ∃ (k : Nat) (v' : Value), k ≤ n ∧ i = .int .i64 k ∧ Hid (TInv base Bs Bm Bo M size (tilesF size (ps.take k).flatten out) v' wr) ∧ Hid (But S w wr)) (fun i _ => n - (intOf i).toNat)
  case atStart => exact ⟨0, v, Nat.zero_le _, rfl, Lib.hid (by simpa [tilesF] using HI.out), Lib.hid (But.refl _ _)⟩
  case round =>
    obtain ⟨k, v', hk, rfl, HI2, HBT⟩ := hrel
    obtain ⟨wo, hwo⟩ : ∃ x, x = wr := ⟨_, rfl⟩
    subst hwo
    by_cases hlt : k < n
    · obtain ⟨hbw, hsw⟩ := HP.out _ HBT.out
      obtain ⟨g1, rfl, hc1⟩ : ∃ g, A = some ⟨g, 0, none⟩ ∧ ∀ j u, vs[j]? = some u → w0.cell? ⟨g, j, none⟩ = some u := by
        rcases HVC.out with q | q
        · omega
        · exact q
      obtain ⟨p, hp⟩ : ∃ p, ps[k]? = some p := ⟨_, List.getElem?_eq_getElem (by rw [HNN.out]; exact hlt)⟩
      obtain ⟨u, hu, hpl, A3, cap3, rfl, hc3⟩ := HVP.out k p hp
      have a0 := cell_below hbw (hc1 k _ hu) (block_of_cell (hc1 k _ hu))
      have hplen : p.length ≤ 2000000 := by
        have : p.length ≤ ps.flatten.length := (List.sublist_flatten_of_mem (List.mem_of_getElem? hp)).length_le
        have := HB.out.2; omega
      obtain ⟨m, hm⟩ : ∃ m, p.length = m := ⟨_, rfl⟩
      have HM := Lib.hid hm
      rw [hm] at hplen a0 hc3
      have HU := Lib.hid hc3
      have HPP := Lib.hid hp
      have i0 : (0 : Int) ≤ k := by omega
      have i1 : (k : Int) < n := by omega
      have HAT := Lib.hid (And.intro i0 i1)
      have HIW : Hid (TInv base Bs Bm Bo M size (tilesF size (ps.take k).flatten out) v' (wo.alloc (.cells #[.slice A3 m cap3] 58))) := Lib.hid (by
        have h := HI2.out
        have hb : Below wo.heap.size wo (wo.alloc (.cells #[.slice A3 m cap3] 58)) := (Below.refl _ _).alloc (Nat.le_refl _) _
        have hl := h.lo
        exact ⟨cell_below hb h.cs (by omega), cell_below hb h.cm (by omega), cell_below hb h.co (by omega), frozen_below hb h.fo (by omega), own_below h.own hb (Nat.le_refl _), h.mp.alloc _, h.tb, by have := hb.size; omega, h.ne⟩)
      have HBW : Hid (But S w (wo.alloc (.cells #[.slice A3 m cap3] 58))) := Lib.hid (HBT.out.alloc _)
      have hBlen : (tilesF size (ps.take k).flatten out).length + p.length ≤ 2000000 := by
        have h1 := tilesF_len size (ps.take k).flatten out
        have h2 : (ps.take (k + 1)).flatten.length ≤ ps.flatten.length := by
          have e := congrArg List.length (congrArg List.flatten (List.take_append_drop (k + 1) ps))
          simp only [List.flatten_append, List.length_append] at e
          omega
        rw [take_next hp, List.flatten_append, List.length_append] at h2
        have e2 : ([p] : List (List (Nat × Nat))).flatten.length = p.length := by simp
        rw [e2] at h2
        have := HB.out.2
        omega
      have HBL := Lib.hid hBlen
      clear hc1 hu hpl hc3 hp hm hBlen hbw
      go_wp2_with fail
      go_loopw [19] (fun i wi => ∃ (j : Nat) (v2 : Value), j ≤ m ∧ i = .int .i64 j ∧ Hid (TInv base Bs Bm Bo M size (tilesF size (p.take j) (tilesF size (ps.take k).flatten out)) v2 wi) ∧ Hid (But S w wi)) (fun i _ => m - (intOf i).toNat)
      case atStart => exact ⟨0, v', Nat.zero_le _, rfl, Lib.hid (by simpa [tilesF] using HIW.out), HBW⟩
      case round =>
        obtain ⟨j, v2, hj, rfl, HI4, HBT4⟩ := hrel
        by_cases hlj : j < m
        · obtain ⟨hbw4, hsw4⟩ := HP.out _ HBT4.out
          obtain ⟨g3, rfl, hc3⟩ : ∃ g, A3 = some ⟨g, 0, none⟩ ∧ ∀ i u, (coordCells p)[i]? = some u → w0.cell? ⟨g, i, none⟩ = some u := by
            rcases HU.out with q | q
            · omega
            · exact q
          obtain ⟨c, hc⟩ : ∃ c, p[j]? = some c := ⟨_, List.getElem?_eq_getElem (by have := HM.out; omega)⟩
          have hat := coordCells_at p j c hc
          have a1 := cell_below hbw4 (hc3 _ _ hat.1) (block_of_cell (hc3 _ _ hat.1))
          have a2 := cell_below hbw4 (hc3 _ _ hat.2) (block_of_cell (hc3 _ _ hat.2))
          have j0 : (0 : Int) ≤ j := by omega
          have j1 : (j : Int) < m := by omega
          have HC := Lib.hid hc
          have hIa : Hid (TInv base Bs Bm Bo M size (tilesF size (p.take j) (tilesF size (ps.take k).flatten out)) v2 (wr.alloc (.cells #[.int .u8 (c.1 : Int), .int .u64 (c.2 : Int)] 80))) := Lib.hid (by
            have h := HI4.out
            have hb : Below wr.heap.size wr (wr.alloc (.cells #[.int .u8 (c.1 : Int), .int .u64 (c.2 : Int)] 80)) := (Below.refl _ _).alloc (Nat.le_refl _) _
            have hl := h.lo
            exact ⟨cell_below hb h.cs (by omega), cell_below hb h.cm (by omega), cell_below hb h.co (by omega), frozen_below hb h.fo (by omega), own_below h.own hb (Nat.le_refl _), h.mp.alloc _, h.tb, by have := hb.size; omega, h.ne⟩)
          have HIN : Hid (InLog size c) := Lib.hid (HA.out p (List.mem_of_getElem? HPP.out) c (List.mem_of_getElem? hc))
          have HL4 : Hid ((tilesF size (p.take j) (tilesF size (ps.take k).flatten out)).length ≤ 2000000) := Lib.hid (by
            have h1 := tilesF_len size (p.take j) (tilesF size (ps.take k).flatten out)
            have h2 : (p.take j).length ≤ p.length := by simp; omega
            have := HBL.out
            omega)
          clear hat hc3 hc hbw4
          go_wp2_with fail
          refine (tiles_step base Bs Bm Bo M size _ v2 c _ hIa.out HIN.out HB.out.1 HL4.out).mono ?_
          rintro ev w5 ⟨rfl, v5, hI5, hB5⟩
          have HI5 : Hid (TInv base Bs Bm Bo M size (tilesF size (p.take (j + 1)) (tilesF size (ps.take k).flatten out)) v5 w5) := Lib.hid (by rw [take_next HC.out, tilesF_snoc]; exact hI5)
          have HB5 : Hid (But S w w5) := Lib.hid ((HBT4.out.alloc _).trans (by rw [HS.out]; exact hB5))
          clear hI5 hB5
          go_wp2
          go_roundw
          case rel => exact ⟨j + 1, v5, by omega, by go_num, HI5, HB5⟩
          case measure => simp [intOf]; omega
        · have i0 := HAT.out.1
          have i1 := HAT.out.2
          have HFIN : Hid (TInv base Bs Bm Bo M size (tilesF size (ps.take (k + 1)).flatten out) v2 wr) := Lib.hid (by
            have e1 : p.take j = p := List.take_of_length_le (by have := HM.out; omega)
            have h := HI4.out
            rw [e1] at h
            rw [take_next HPP.out, List.flatten_append, tilesF_append]
            simpa using h)
          go_wp2
          go_roundw
          case rel => exact ⟨k + 1, v2, by omega, by go_num, HFIN, HBT4⟩
          case measure => simp [intOf]; omega
    · go_wp2
      go_ret
      refine ⟨rfl, v', ?_, ?_⟩
      · have : ps.take k = ps := List.take_of_length_le (by have := HNN.out; omega)
        rw [← this]; exact HI2.out
      · rw [← HS.out]; exact HBT.out
end Go.Proofs.YtdodfeoaioolnaaDoor

/- plan.Tiles of parts whose trees all lie in the log. No condition. -/
namespace Go.Proofs.YtdodfeoaioolnaaDoor
open Go.ChangeShapes Go.WideShapes Go.ChangeAt Go.RowKit
set_option linter.unusedVariables false
theorem but_low {S : Nat → Prop} {w w' : World} (h : But S w w') {B : Nat} (hB : B ≤ w.heap.size) (hS : ∀ k, k < B → ¬ S k) : Below B w w' := h.to_below hB hS
set_option maxRecDepth 100000 in
set_option maxHeartbeats 4000000 in
theorem tiles_ok (size : Nat) (va : Value) (ps : List (List (Nat × Nat))) (w : World) (hP : PRd w va ps) (hc : AllIn size ps) (hs : size ≤ 9223372036854775808) (hn : ps.flatten.length ≤ 2000000) (hps : ps.length ≤ 2000000) :
    Calls Tryd.prog 37 #[va, .int .u64 (size : Int)] w (ListPost 84 3 w (tilesF size ps.flatten []).length (tileCells (tilesF size ps.flatten []))) := by
  obtain ⟨sz, hsz⟩ : ∃ x : Int, (size : Int) = x := ⟨_, rfl⟩
  have hs1 : sz ≤ 9223372036854775808 := by omega
  have hs0 : 0 ≤ sz := by omega
  have HS := Lib.hid hsz
  have HX := Lib.hid (And.intro hP (And.intro hc (And.intro hs (And.intro hn hps))))
  have hmm := @run_makeMap Tryd.prog
  rw [hsz]
  clear hP hc hs hn hps hsz
  go_enter Tryd.func37, Tryd.ntmps37
  go_wp2_with fail
  obtain ⟨W, hW⟩ : ∃ z, (((w.alloc (.cells #[.int .u64 sz] 39)).alloc (.cells #[.slice none 0 0] 76)).alloc (.map #[] 0)).alloc (.cells #[.map (some (w.heap.size + 1 + 1))] 110) = z := ⟨_, rfl⟩
  have hB : Below w.heap.size w W := by rw [← hW]; exact ((((Below.refl _ _).alloc (by simp) _).alloc (by simp <;> omega) _).alloc (by simp <;> omega) _).alloc (by simp <;> omega) _
  have hI : TInv (w.heap.size + 4) w.heap.size (w.heap.size + 1 + 1 + 1) (w.heap.size + 1) (w.heap.size + 1 + 1) size [] (.slice none 0 0) W := by
    have hm := World.ownsMap_made ((w.alloc (.cells #[.int .u64 sz] 39)).alloc (.cells #[.slice none 0 0] 76)) Tryd.prog 84 (plainElem (H := Unit) Tryd.prog 4)
    have e2 : ((w.alloc (.cells #[.int .u64 sz] 39)).alloc (.cells #[.slice none 0 0] 76)).heap.size = w.heap.size + 1 + 1 := by simp
    rw [e2] at hm
    rw [← hW]
    refine ⟨?_, ?_, ?_, ?_, World.ownsRow_nil _ _ _ _, ?_, fun t ht => by simp at ht, ⟨by omega, by omega, by omega, by omega, by simp⟩, ⟨by omega, by omega, by omega, by omega, by omega⟩⟩
    · rw [HS.out]
      exact cell_alloc (cell_alloc (cell_alloc (cell_new _ _ 0 _ rfl) _) _) _
    · have := cell_new (w := ((w.alloc (.cells #[.int .u64 sz] 39)).alloc (.cells #[.slice none 0 0] 76)).alloc (.map #[] 0)) #[.map (some (w.heap.size + 1 + 1))] 110 0 _ rfl
      simpa using this
    · have := cell_new (w := w.alloc (.cells #[.int .u64 sz] 39)) #[.slice none 0 0] 76 0 _ rfl
      have h2 := cell_alloc (cell_alloc this (.map #[] 0)) (.cells #[.map (some (w.heap.size + 1 + 1))] 110)
      simpa using h2
    · have h1 : ((w.alloc (.cells #[.int .u64 sz] 39)).alloc (.cells #[.slice none 0 0] 76)).frozen? ⟨w.heap.size + 1, 0, none⟩ = false := by simp
      exact frozen_alloc (frozen_alloc h1 (by simp) _) (by simp <;> omega) _
    · rw [setT_nil]; exact hm.alloc _
  have hsz : w.heap.size + 4 = W.heap.size := by rw [← hW]; simp
  have HI := Lib.hid hI
  have HB := Lib.hid hB
  have HZ := Lib.hid hsz
  rw [hW]
  clear hW hI hB hsz hmm
  refine (each_ok _ _ _ _ _ size [] _ va ps w W HI.out HX.out.1 HB.out (by omega) HX.out.2.1 HX.out.2.2.1 (by simpa using HX.out.2.2.2.1) HX.out.2.2.2.2).mono ?_
  rintro ev w5 ⟨rfl, v5, hI5, hB5⟩
  have c5 := hI5.co
  have HFIN : Hid (w5.ownsRow w.heap.size 84 3 v5 (tilesF size ps.flatten []).length (tileCells (tilesF size ps.flatten [])) ∧ Below w.heap.size w w5) := Lib.hid ⟨own_mono hI5.own (by omega), HB.out.trans (but_low hB5 HB.out.size (fun k hk q => by rcases q with q | q | q <;> omega))⟩
  clear hI5 hB5
  go_wp2
  refine bodyPost_ret (v := .tuple #[v5, .nilIface]) (by simp [results, Tryd.results37, go_sem]) rfl ⟨v5, rfl, HFIN.out.1, HFIN.out.2⟩
end Go.Proofs.YtdodfeoaioolnaaDoor

