import Derived.Test.YtnpblpbcchminaaGreatDoorKbHashAny
import Derived.Test.YtnpblpbcchminaaGreatDoorKbErrs
import Derived.Laws.ResultCell
import Derived.Laws.AppendOwn
import Derived.Deep.RegionHeld3
import Derived.StillTailTactics
/- Small facts for walks over hashes by value and lists of them: rows, slices of one hash, what the listed variables give. No program in sight but its types. -/
namespace Go.Proofs.YtnpblpbcchminaaGreatDoor
open Go.ChangeShapes Go.WideShapes Go.ChangeAt Go.RowKit
set_option linter.unusedVariables false
theorem heap_at (w : World) (o : Obj) (k : Nat) (hk : k = w.heap.size) : (w.alloc o).heap[k]? = some o := by subst hk; exact heap_alloc_new w o
/-- a whole row stored; the world behind it as a letter -/
theorem wpList_store_row_any {P : Program} {ops : Array Oper} {rest : List Oper} {o : Oper} {a : Act} {w : World} {Q : Exit → Act → World → Prop} (hgd : o.guard = none) (ty : TypeId) (x y : Operand) (ho : o.op = .store ty x y)
    (g : Nat) (cells : Array Value) (hx : a.eval x = .pointer (some ⟨g, 0, none⟩)) (hy : a.eval y = .agg cells)
    (t : TypeId) (old : Array Value) (hg : w.heap[g]? = some (.cells old t (0, 0))) (hi : (P.info? ty).map (·.size) = some cells.size)
    (hold : old.size = cells.size) (h1 : cells.all (·.oneCell') = true)
    (h : ∀ w', But (· = g) w w' → w'.heap[g]? = some (.cells cells t (0, 0)) → w'.heap.size = w.heap.size → wpList P ops Q rest (a.put o.dst undef) w') : wpList P ops Q (o :: rest) a w :=
  wpList_store_row hgd ty x y ho g cells hx hy t old hg hi hold h1 (h _ (by
    have := below_setRow (B := 0) (Below.refl 0 w) g cells (by omega)
    exact ⟨this.os, this.tape, this.output, this.size, fun k _ hk => setRow_other w g k cells (by omega)⟩) (setRow_heap _ _ _ _ _ _ hg) (setRow_size _ _ _))
theorem wpStill_load_mid {P : Program} {ops : Array Oper} {rest : List Oper} {o : Oper} {a : Act} {w : World} {Q : Act → Prop} (hgd : o.guard = none) (ty : TypeId) (x : Operand) (ho : o.op = .load ty x)
    (b of : Nat) (hx : a.eval x = .pointer (some ⟨b, of, none⟩)) (cs : List Value) (d : TypeDesc) (hc : w.rangeAt b of cs)
    (hu : P.underlying ty = some d) (hd : d.isRow = true) (hi : (P.info? ty).map (·.size) = some cs.length)
    (h : wpStill P ops w Q rest (a.put o.dst (.agg cs.toArray))) : wpStill P ops w Q (o :: rest) a := wpStill_step fun K hK => by
  rw [if_pos (by simp [Region.wanted, hgd])]
  unfold Oper.still execOp
  simp only [ho, hx, Instr.loadAt, Instr.sureAddr, Sem.run_bind, Sem.run_pure, Result.andThen_ok, run_loadVar_mid w b of ty cs d hc hu hd hi, Oper.stillUpon_value]
  exact hK _ h
/-- what the listed variables give: the errors, the table -/
structure Env (B : Nat) (a : Nat → Addr) (w : World) : Prop where
  laid : Laid B a w
  tab : KTab 17 w
theorem Env.low {B : Nat} {a : Nat → Addr} {w : World} (h : Env B a w) : 17 < B := Nat.lt_of_lt_of_le (by decide) h.laid.low
theorem Env.below {B : Nat} {a : Nat → Addr} {w w' : World} (h : Env B a w) (hb : Below B w w') : Env B a w' := ⟨h.laid.below hb, fun i hi => cell_below hb (h.tab i hi) h.low⟩
theorem Env.step {B : Nat} {a : Nat → Addr} {w w' : World} (h : Env B a w) (hb : Below w.heap.size w w') : Env B a w' := h.below (hb.mono h.laid.size)
theorem Env.alloc {B : Nat} {a : Nat → Addr} {w : World} (h : Env B a w) (o : Obj) : Env B a (w.alloc o) := h.step ((Below.refl _ _).alloc (Nat.le_refl _) _)
theorem results_row_tmp {P : Program} {fn : Func} {p u : Tmp} {ty : TypeId} (h : fn.results = #[.cell p ty, .tmp u]) (tmps : Array Value) (w : World) (g : Nat) (t : TypeId) (cs : Array Value) (fr : Nat × Nat) (d : TypeDesc)
    (hp : tmps.getD p undef = .pointer (some ⟨g, 0, none⟩)) (hg : w.heap[g]? = some (.cells cs t fr))
    (hu : P.underlying ty = some d) (hd : (match d with | .struct _ | .array _ _ => true | _ => false) = true) (hi : (P.info? ty).map (·.size) = some cs.size) (x : Value) (hx : tmps.getD u undef = x) :
    (results fn tmps).run P w = .ok (.tuple #[.agg cs, x]) w := by
  subst hx
  rw [results_cell_tmp h tmps P w, hp]
  simp [asAddr, run_loadVar_row w g t ty cs fr d hg hu hd hi, Result.andThen]
/-- a list of hashes as an argument: its parts -/
def HIn (w : World) (A : Option Addr) (n cap : Nat) (l : List (List UInt8)) : Prop := H32 l ∧ l.length = n ∧ n ≤ cap ∧ cap ≤ 9223372036854775807 ∧ (l = [] ∨ ∃ g o, A = some ⟨g, o, none⟩ ∧ w.rangeAt g o (hashCells l))
theorem hashCells_ne {l : List (List UInt8)} (h32 : H32 l) (hl : l ≠ []) : hashCells l ≠ [] := fun e => by
  have := hashCells_length h32
  rw [e] at this
  cases l with
  | nil => exact hl rfl
  | cons x r => simp at this
theorem HIn.below {w w' : World} {A : Option Addr} {n cap : Nat} {l : List (List UInt8)} (h : HIn w A n cap l) (hb : Below w.heap.size w w') : HIn w' A n cap l := by
  obtain ⟨h1, h2, h3, h4, h5⟩ := h
  refine ⟨h1, h2, h3, h4, ?_⟩
  rcases h5 with h5 | ⟨g, o, h6, h7⟩
  · exact .inl h5
  · by_cases hl : l = []
    · exact .inl hl
    · exact .inr ⟨g, o, h6, rangeAt_below hb h7 (rangeAt_lt h7 (hashCells_ne h1 hl))⟩
def zeroH : List UInt8 := List.replicate 32 0
theorem zeroH_length : zeroH.length = 32 := by simp [zeroH]
theorem zeroH_v : hv zeroH = .agg (List.replicate 32 (Value.int .u8 0)).toArray := by simp [hv, zeroH, bytesV, byteV]
theorem sizeOf_u8 (w : World) : (sizeOf 5).run Tryz.prog w = .ok 1 w := Tryz.sizeOf5 w
/-- a whole row loaded by a guarded operation that is carried out -/
theorem wpList_load_row_g {P : Program} {ops : Array Oper} {rest : List Oper} {o : Oper} {a : Act} {w : World} {Q : Exit → Act → World → Prop} (hw : Region.wanted o (yielded ops a.tmps) = true) (ty : TypeId) (x : Operand) (ho : o.op = .load ty x)
    (g : Nat) (hx : a.eval x = .pointer (some ⟨g, 0, none⟩)) (t : TypeId) (cs : Array Value) (fr : Nat × Nat) (d : TypeDesc) (hg : w.heap[g]? = some (.cells cs t fr))
    (hu : P.underlying ty = some d) (hd : (match d with | .struct _ | .array _ _ => true | _ => false) = true) (hi : (P.info? ty).map (·.size) = some cs.size)
    (h : wpList P ops Q rest (a.put o.dst (.agg cs)) w) : wpList P ops Q (o :: rest) a w :=
  wpList_step fun _ hK => by
    rw [if_pos hw]
    exact wp_load_row ty x ho g hx t cs fr d hg hu hd hi (hK _ _ h)
/-- two hashes as the program compares them -/
theorem eq_hash (p q : List UInt8) (hp : p.length = 32) (hq : q.length = 32) (vp vq : Array Value) (h1 : hv p = .agg vp) (h2 : hv q = .agg vq) (w : World) :
    (Op.equalIn 10000 23 (.agg vp) (.agg vq)).run Tryz.prog w = .ok (p == q) w := by
  rw [← h1, ← h2]
  exact run_equalIn_hash w 9998 23 5 32 Tryz.underlying23 Tryz.underlying5 sizeOf_u8 p q hp hq
theorem fold_sets : ∀ (l : List Value) (k : Nat) (A : Array Value), k + l.length ≤ A.size →
    ((l.zipIdx k).foldl (fun cs p => cs.setIfInBounds (0 + p.2) p.1) A).toList = A.toList.take k ++ l ++ A.toList.drop (k + l.length)
  | [], k, A, _ => by simp
  | v :: r, k, A, h => by
    have hk : k < A.size := by simp at h; omega
    rw [List.zipIdx_cons, List.foldl_cons, fold_sets r (k + 1) _ (by simp at h ⊢; omega)]
    simp only [Array.toList_setIfInBounds, Nat.zero_add]
    have hkl : (A.toList.take k).length = k := by simp; omega
    have e1 : (A.toList.set k v).take (k + 1) = A.toList.take k ++ [v] := by
      refine List.ext_getElem? fun i => ?_
      by_cases hi : i < k
      · rw [List.getElem?_take_of_lt (by omega), List.getElem?_set_ne (by omega), List.getElem?_append_left (by simp; omega), List.getElem?_take_of_lt hi]
      · by_cases he : i = k
        · subst he; rw [List.getElem?_take_of_lt (by omega), List.getElem?_set_self (by simpa using hk), List.getElem?_append_right (by omega), hkl, Nat.sub_self]; rfl
        · rw [List.getElem?_eq_none (by simp; omega), List.getElem?_eq_none (by simp; omega)]
    have e2 : (A.toList.set k v).drop (k + 1 + r.length) = A.toList.drop (k + (v :: r).length) := by
      rw [List.drop_set_of_lt (by omega)]; simp; congr 1; omega
    rw [e1, e2]; simp
theorem run_buildSlice_row {P : Program} (w : World) (t e : TypeId) (cs : Array Value) (z : Value) (n : Nat) (ht : P.underlying t = some (.slice e)) (hsz : ∀ w, (sizeOf e).run P w = .ok n w) (hz : ∀ w, (zeroValue e).run P w = .ok z w)
    (hzn : z.cells.size = n) (hcs : cs.size = n) (h0 : 0 < n) (hn : n ≤ 2 ^ 24) :
    (Instr.buildSlice t 1 #[(0, .agg cs)]).run P w = .ok (.slice (some ⟨w.heap.size, 0, none⟩) 1 1) (w.alloc (.cells cs e)) := by
  have hfold : ∀ A : Array Value, A.size = n → (Value.agg cs).cells.zipIdx.foldl (fun cs (c, j) => cs.setIfInBounds (0 + j) c) A = cs := by
    intro A hA
    refine Array.ext' ?_
    have h := fold_sets cs.toList 0 A (by simp; omega)
    rw [← Array.foldl_toList]
    simp only [Value.cells, Array.toList_zipIdx]
    rw [h]
    simp; omega
  have hr : ((Array.range n).map (fun x => z.cells[x % z.cells.size]!)).size = n := by simp
  unfold Instr.buildSlice
  have hc : (Value.agg cs).cells.size = n := hcs
  have hf := hfold _ hr
  have hzs : (Value.agg cs).cells.zipIdx.size = n := by simp [hc]
  rw [hzs] at hf
  simp only [Nat.zero_add] at hf
  simp [run_underlying ht, hsz, hz, Nat.not_lt.2 hn, Nat.ne_of_gt h0, Instr.fill, hc, hf, newRow]
theorem wp_buildSlice_row {P : Program} {o : Oper} {a : Act} {w : World} {K : Act → World → Prop} {Q : Exit → Act → World → Prop} (t e : TypeId) (x : Operand) (cs : Array Value) (z : Value) (n : Nat) (ho : o.op = .buildSlice t 1 #[(0, x)]) (hx : a.eval x = .agg cs)
    (ht : P.underlying t = some (.slice e)) (hsz : ∀ w, (sizeOf e).run P w = .ok n w) (hz : ∀ w, (zeroValue e).run P w = .ok z w)
    (hzn : z.cells.size = n) (hcs : cs.size = n) (h0 : 0 < n) (hn : n ≤ 2 ^ 24)
    (h : K (a.put o.dst (.slice (some ⟨w.heap.size, 0, none⟩) 1 1)) (w.alloc (.cells cs e))) : o.wp P a w K Q := by
  unfold Oper.wp execOp
  simp only [ho, List.map_toArray, List.map_cons, List.map_nil, hx, Sem.run_bind, Sem.run_pure, Result.andThen_ok, run_buildSlice_row w t e cs z n ht hsz hz hzn hcs h0 hn]
  exact h
theorem wpList_buildSlice_row {P : Program} {ops : Array Oper} {rest : List Oper} {o : Oper} {a : Act} {w : World} {Q : Exit → Act → World → Prop} (hw : Region.wanted o (yielded ops a.tmps) = true) (t e : TypeId) (x : Operand) (cs : Array Value) (z : Value) (n : Nat) (ho : o.op = .buildSlice t 1 #[(0, x)]) (hx : a.eval x = .agg cs)
    (ht : P.underlying t = some (.slice e)) (hsz : ∀ w, (sizeOf e).run P w = .ok n w) (hz : ∀ w, (zeroValue e).run P w = .ok z w)
    (hzn : z.cells.size = n) (hcs : cs.size = n) (h0 : 0 < n) (hn : n ≤ 2 ^ 24)
    (h : wpList P ops Q rest (a.put o.dst (.slice (some ⟨w.heap.size, 0, none⟩) 1 1)) (w.alloc (.cells cs e))) : wpList P ops Q (o :: rest) a w :=
  wpList_step fun K hK => by
    rw [if_pos hw]
    exact wp_buildSlice_row t e x cs z n ho hx ht hsz hz hzn hcs h0 hn (hK _ _ h)
theorem info_hash : (Tryz.prog.info? 23).map (fun i => (i.zero, i.size, i.bytes)) = some (some (.agg (List.replicate 32 (Value.int .u8 0)).toArray), 32, 32) := by kernel_rfl
/-- a hash as a row of cells, all that a walk wants of it -/
theorem row_of (p : List UInt8) (hp : p.length = 32) : ∃ vp : Array Value, hv p = .agg vp ∧ Hid ((bytesV p).toArray = vp) ∧ Hid (vp.size = 32) ∧ Hid ((Tryz.prog.info? 23).map (·.size) = some vp.size) ∧ Hid (vp.all (·.oneCell') = true) := by
  have hs : (bytesV p).toArray.size = 32 := by simp [bytesV_length, hp]
  exact ⟨_, rfl, Lib.hid rfl, Lib.hid hs, Lib.hid (by rw [hs]; kernel_rfl), Lib.hid (bytesV_all _)⟩
/-- the row loaded where the order is drawn -/
theorem yieldsIf_load_row {P : Program} {ops : Array Oper} {o : Oper} {a : Act} {S : World → Prop} (hw : Region.wanted o (yielded ops a.tmps) = true) (ty : TypeId) (x : Operand) (ho : o.op = .load ty x)
    (g : Nat) (hx : a.eval x = .pointer (some ⟨g, 0, none⟩)) (t : TypeId) (cs : Array Value) (fr : Nat × Nat) (d : TypeDesc) (hg : ∀ w, S w → w.heap[g]? = some (.cells cs t fr))
    (hu : P.underlying ty = some d) (hd : (match d with | .struct _ | .array _ _ => true | _ => false) = true) (hi : (P.info? ty).map (·.size) = some cs.size) : YieldsIf P ops S o (.agg cs) a :=
  .inl ⟨hw, fun w hS => by
    unfold execOp
    simp only [ho, hx, Instr.loadAt, Instr.sureAddr, Sem.run_bind, Sem.run_pure, Result.andThen_ok, run_loadVar_row w g t ty cs fr d (hg w hS) hu hd hi]⟩
theorem hin_none (w : World) : HIn w none 0 0 [] := ⟨H32.nil, rfl, Nat.le_refl _, by omega, .inl rfl⟩
end Go.Proofs.YtnpblpbcchminaaGreatDoor
