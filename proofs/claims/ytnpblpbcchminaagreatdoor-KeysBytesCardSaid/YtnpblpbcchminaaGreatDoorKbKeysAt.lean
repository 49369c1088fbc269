import Derived.Test.YtnpblpbcchminaaGreatDoorKbKeysOwn
/- A tree of keys in memory. Condition: the table reads as listed. -/
namespace Go.Proofs.YtnpblpbcchminaaGreatDoor
open Go.ChangeShapes Go.WideShapes Go.ChangeAt Go.RowKit
set_option linter.unusedVariables false

/-- the cells of a tree of keys: the secret's bytes, the rows, the height, the next key's number -/
def keyV (v0 : Array Value) (ls : List Value) (n x : Nat) : Array Value := (v0.toList ++ (ls ++ [Value.int .i64 n, Value.int .i64 x, Value.bool true])).toArray
theorem built_key (v0 : Array Value) (h0 : v0.size = 32) (n : Nat) (w : World) : (Instr.build 51 #[(0, .agg v0), (2, .int .i64 n), (4, .bool true)]).run Tryz.prog w = .ok (.agg (keyV v0 (List.replicate 7 (.slice none 0 0)) n 0)) w := by
  obtain ⟨l⟩ := v0
  simp only [List.size_toArray] at h0
  obtain ⟨x0, l, rfl⟩ := List.exists_cons_of_length_eq_add_one (l := l) (n := 31) (by simpa using h0)
  simp only [List.length_cons] at h0
  obtain ⟨x1, l, rfl⟩ := List.exists_cons_of_length_eq_add_one (l := l) (n := 30) (by simpa using h0)
  simp only [List.length_cons] at h0
  obtain ⟨x2, l, rfl⟩ := List.exists_cons_of_length_eq_add_one (l := l) (n := 29) (by simpa using h0)
  simp only [List.length_cons] at h0
  obtain ⟨x3, l, rfl⟩ := List.exists_cons_of_length_eq_add_one (l := l) (n := 28) (by simpa using h0)
  simp only [List.length_cons] at h0
  obtain ⟨x4, l, rfl⟩ := List.exists_cons_of_length_eq_add_one (l := l) (n := 27) (by simpa using h0)
  simp only [List.length_cons] at h0
  obtain ⟨x5, l, rfl⟩ := List.exists_cons_of_length_eq_add_one (l := l) (n := 26) (by simpa using h0)
  simp only [List.length_cons] at h0
  obtain ⟨x6, l, rfl⟩ := List.exists_cons_of_length_eq_add_one (l := l) (n := 25) (by simpa using h0)
  simp only [List.length_cons] at h0
  obtain ⟨x7, l, rfl⟩ := List.exists_cons_of_length_eq_add_one (l := l) (n := 24) (by simpa using h0)
  simp only [List.length_cons] at h0
  obtain ⟨x8, l, rfl⟩ := List.exists_cons_of_length_eq_add_one (l := l) (n := 23) (by simpa using h0)
  simp only [List.length_cons] at h0
  obtain ⟨x9, l, rfl⟩ := List.exists_cons_of_length_eq_add_one (l := l) (n := 22) (by simpa using h0)
  simp only [List.length_cons] at h0
  obtain ⟨x10, l, rfl⟩ := List.exists_cons_of_length_eq_add_one (l := l) (n := 21) (by simpa using h0)
  simp only [List.length_cons] at h0
  obtain ⟨x11, l, rfl⟩ := List.exists_cons_of_length_eq_add_one (l := l) (n := 20) (by simpa using h0)
  simp only [List.length_cons] at h0
  obtain ⟨x12, l, rfl⟩ := List.exists_cons_of_length_eq_add_one (l := l) (n := 19) (by simpa using h0)
  simp only [List.length_cons] at h0
  obtain ⟨x13, l, rfl⟩ := List.exists_cons_of_length_eq_add_one (l := l) (n := 18) (by simpa using h0)
  simp only [List.length_cons] at h0
  obtain ⟨x14, l, rfl⟩ := List.exists_cons_of_length_eq_add_one (l := l) (n := 17) (by simpa using h0)
  simp only [List.length_cons] at h0
  obtain ⟨x15, l, rfl⟩ := List.exists_cons_of_length_eq_add_one (l := l) (n := 16) (by simpa using h0)
  simp only [List.length_cons] at h0
  obtain ⟨x16, l, rfl⟩ := List.exists_cons_of_length_eq_add_one (l := l) (n := 15) (by simpa using h0)
  simp only [List.length_cons] at h0
  obtain ⟨x17, l, rfl⟩ := List.exists_cons_of_length_eq_add_one (l := l) (n := 14) (by simpa using h0)
  simp only [List.length_cons] at h0
  obtain ⟨x18, l, rfl⟩ := List.exists_cons_of_length_eq_add_one (l := l) (n := 13) (by simpa using h0)
  simp only [List.length_cons] at h0
  obtain ⟨x19, l, rfl⟩ := List.exists_cons_of_length_eq_add_one (l := l) (n := 12) (by simpa using h0)
  simp only [List.length_cons] at h0
  obtain ⟨x20, l, rfl⟩ := List.exists_cons_of_length_eq_add_one (l := l) (n := 11) (by simpa using h0)
  simp only [List.length_cons] at h0
  obtain ⟨x21, l, rfl⟩ := List.exists_cons_of_length_eq_add_one (l := l) (n := 10) (by simpa using h0)
  simp only [List.length_cons] at h0
  obtain ⟨x22, l, rfl⟩ := List.exists_cons_of_length_eq_add_one (l := l) (n := 9) (by simpa using h0)
  simp only [List.length_cons] at h0
  obtain ⟨x23, l, rfl⟩ := List.exists_cons_of_length_eq_add_one (l := l) (n := 8) (by simpa using h0)
  simp only [List.length_cons] at h0
  obtain ⟨x24, l, rfl⟩ := List.exists_cons_of_length_eq_add_one (l := l) (n := 7) (by simpa using h0)
  simp only [List.length_cons] at h0
  obtain ⟨x25, l, rfl⟩ := List.exists_cons_of_length_eq_add_one (l := l) (n := 6) (by simpa using h0)
  simp only [List.length_cons] at h0
  obtain ⟨x26, l, rfl⟩ := List.exists_cons_of_length_eq_add_one (l := l) (n := 5) (by simpa using h0)
  simp only [List.length_cons] at h0
  obtain ⟨x27, l, rfl⟩ := List.exists_cons_of_length_eq_add_one (l := l) (n := 4) (by simpa using h0)
  simp only [List.length_cons] at h0
  obtain ⟨x28, l, rfl⟩ := List.exists_cons_of_length_eq_add_one (l := l) (n := 3) (by simpa using h0)
  simp only [List.length_cons] at h0
  obtain ⟨x29, l, rfl⟩ := List.exists_cons_of_length_eq_add_one (l := l) (n := 2) (by simpa using h0)
  simp only [List.length_cons] at h0
  obtain ⟨x30, l, rfl⟩ := List.exists_cons_of_length_eq_add_one (l := l) (n := 1) (by simpa using h0)
  simp only [List.length_cons] at h0
  obtain ⟨x31, l, rfl⟩ := List.exists_cons_of_length_eq_add_one (l := l) (n := 0) (by simpa using h0)
  simp only [List.length_cons] at h0
  obtain rfl := List.eq_nil_of_length_eq_zero (by simpa using h0)
  exact run_build w 51 _ _ (by kernel_rfl)

theorem wp_append_list {P : Program} {w : World} {o : Oper} {a : Act} {K : Act → World → Prop} {Q : Exit → Act → World → Prop} (s x : Operand) (t : TypeId)
    (ho : o.op = .call { callee := .builtin .append, args := #[s, x], argTypes := #[t, t] })
    (base b2 : Nat) (e : TypeId) (i : TypeInfo) (z : Value) (size bytes : Nat) (ht : P.underlying t = some (.slice e)) (hi : P.info? e = some i) (hz : i.zero = some z)
    (hsize : i.size = size) (hby : i.bytes = bytes) (hzs : z.cells.size = size) (hsz : 0 < size)
    (v vx : Value) (n m : Nat) (xs news : List Value) (hs : a.eval s = v) (hx : a.eval x = vx) (hown : w.ownsRow base e size v n xs) (hsrc : w.ownsRow b2 e size vx m news) (h1 : ∀ u ∈ news, u.oneCell' = true)
    (h63 : n + m ≤ maxLen) (hbytes : (n + m) * bytes ≤ 140737488355328) (hbase : base ≤ w.heap.size)
    (h : ∀ v' w', w'.ownsRow base e size v' (n + m) (xs ++ news) → w.grownBy w' v.ownBlock → (v'.ownBlock = v.ownBlock ∨ v'.ownBlock = some w.heap.size) → K (a.put o.dst v') w') : o.wp P a w K Q := by
  rcases hsrc.2 with ⟨hv, hm⟩ | ⟨g, cap, cur, hv, _⟩
  · subst hm
    have hn : news = [] := List.eq_nil_of_length_eq_zero (by simpa using hsrc.1)
    subst hn
    have hrun := run_append_owned_none (P := P) (w := w) base t o.type e i size ht hi v n xs hown
    unfold Oper.wp
    simp [execOp, ho, resolve, invoke, builtin, hs, hx, hv, hrun, Result.andThen]
    exact (h v w (by simpa using hown) ⟨rfl, rfl, rfl, Nat.le_refl _, fun _ _ _ => rfl⟩ (.inl rfl))
  · obtain ⟨v', w', hr, h2, h3, h4, h5⟩ := run_append_own_at (P := P) w base t o.type e i z size bytes ht hi hz hsize hby hzs hsz v n xs hown ⟨g, 0, none⟩ m cap news hsrc.1 (fun j u hu => hsrc.cells (g := g) (by rw [hv]; rfl) j u hu) h1 h63 hbytes hbase
    unfold Oper.wp execOp
    simp only [ho, resolve, invoke, builtin, Sem.run_bind, Sem.run_pure, Result.andThen_ok, List.map_toArray, List.map_cons, List.map_nil, hs, hx, hv, hr]
    exact h v' w' h2 h3 h5

theorem own_keep {w n : World} {base : Nat} {e : TypeId} {size : Nat} {v : Value} {m : Nat} {xs : List Value} (f : ∀ (k : Nat) (x : Obj), w.heap[k]? = some x → n.heap[k]? = some x) (h : w.ownsRow base e size v m xs) : n.ownsRow base e size v m xs := by
  refine ⟨h.1, ?_⟩
  rcases h.2 with q | ⟨g, cap, cur, h1, h2, h3, h4⟩
  · exact .inl q
  · exact .inr ⟨g, cap, cur, h1, h2, f _ _ h3, h4⟩
theorem own_keep_ne {w n : World} {base : Nat} {e : TypeId} {size : Nat} {v : Value} {m b : Nat} {xs : List Value} (f : ∀ (k : Nat) (x : Obj), k ≠ b → w.heap[k]? = some x → n.heap[k]? = some x) (h : w.ownsRow base e size v m xs) (hb : v.ownBlock ≠ some b) : n.ownsRow base e size v m xs := by
  refine ⟨h.1, ?_⟩
  rcases h.2 with q | ⟨g, cap, cur, h1, h2, h3, h4⟩
  · exact .inl q
  · exact .inr ⟨g, cap, cur, h1, h2, f _ _ (fun e => hb (by rw [h1, ← e]; rfl)) h3, h4⟩
theorem st_cell {pred : Nat → Prop} {base w n : World} {b o t : Nat} {c : Array Value} {v : Value} (h : But pred base w) (hn : w.setCell ⟨b, o, none⟩ v = n) (hp : b < base.heap.size → pred b) (hr : w.heap[b]? = some (.cells c t (0, 0))) : But pred base n ∧ n.heap[b]? = some (.cells (c.setIfInBounds o v) t (0, 0)) ∧ ∀ (k : Nat) (x : Obj), k ≠ b → w.heap[k]? = some x → n.heap[k]? = some x := by
  subst hn
  exact ⟨h.setCell b o v hp, heap_setCell_same w b o _ t _ hr, fun k x hk hx => (heap_setCell_other w ⟨b, o, none⟩ k v hk).trans hx⟩
theorem st_grow {pred : Nat → Prop} {base w n : World} {blk : Option Nat} (h : But pred base w) (g : w.grownBy n blk) (hp : ∀ k, blk = some k → pred k) : But pred base n ∧ ∀ (k : Nat) (x : Obj), blk ≠ some k → w.heap[k]? = some x → n.heap[k]? = some x := by
  refine ⟨h.step (T := fun k => blk = some k) ⟨g.os, g.tape, g.output, g.size, fun k hk q => g.block k hk (fun e => q e.symm)⟩ (fun k _ q => hp k q), fun k x hk hx => (g.block k (Array.getElem?_eq_some_iff.1 hx).1 (fun e => hk e.symm)).trans hx⟩
/-- the new row of one hash, wherever it lies -/
theorem own_at {w : World} {g : Nat} {c : Array Value} (p : List UInt8) (h : w.heap[g]? = some (.cells c 23 (0, 0))) (hc : (bytesV p).toArray = c) (hs : c.size = 32) : w.ownsRow g 23 32 (.slice (some ⟨g, 0, none⟩) 1 1) 1 (hashCells [p]) := by
  refine ⟨by rw [hashCells_one, ← show c.toList = bytesV p by rw [← hc]]; simpa using hs, .inr ⟨g, 1, c, rfl, Nat.le_refl _, h, Nat.le_refl _, by unfold maxLen; omega, by omega, ?_⟩⟩
  rw [hashCells_one, ← show c.toList = bytesV p by rw [← hc], List.take_of_length_le (by simp [hs])]
theorem keyV_row {v0 : Array Value} {ls : List Value} {n x j : Nat} (h0 : v0.size = 32) (hl : ls.length = 7) (hj : j < 7) : (keyV v0 ls n x)[32 + j]? = ls[j]? := by
  unfold keyV
  rw [List.getElem?_toArray, List.getElem?_append_right (by simp [h0]), Array.length_toList, h0, Nat.add_sub_cancel_left, List.getElem?_append_left (by omega)]
theorem keyV_last {v0 : Array Value} {ls : List Value} {n x : Nat} (h0 : v0.size = 32) (hl : ls.length = 7) : (keyV v0 ls n x)[39]? = some (.int .i64 n) ∧ (keyV v0 ls n x)[40]? = some (.int .i64 x) ∧ (keyV v0 ls n x)[41]? = some (.bool true) := by
  unfold keyV
  refine ⟨?_, ?_, ?_⟩ <;> rw [List.getElem?_toArray, List.getElem?_append_right (by simp [h0]), Array.length_toList, h0, List.getElem?_append_right (by omega), hl] <;> rfl
theorem keyV_sec {v0 : Array Value} {ls : List Value} {n x j : Nat} (h0 : v0.size = 32) (hj : j < 32) : (keyV v0 ls n x)[j]? = v0[j]? := by
  unfold keyV
  rw [List.getElem?_toArray, List.getElem?_append_left (by simp [h0]; exact hj), Array.getElem?_toList]
theorem keyV_set {v0 : Array Value} {ls : List Value} {n x j : Nat} (h0 : v0.size = 32) (hl : ls.length = 7) (hj : j < 7) (u : Value) : (keyV v0 ls n x).setIfInBounds (32 + j) u = keyV v0 (ls.set j u) n x := by
  unfold keyV
  rw [List.setIfInBounds_toArray, List.set_append_right _ _ (by simp [h0]), Array.length_toList, h0, Nat.add_sub_cancel_left, List.set_append_left _ _ (by omega)]
theorem keyV_next {v0 : Array Value} {ls : List Value} {n x y : Nat} (h0 : v0.size = 32) (hl : ls.length = 7) : (keyV v0 ls n x).setIfInBounds 40 (.int .i64 y) = keyV v0 ls n y := by
  unfold keyV
  rw [List.setIfInBounds_toArray, List.set_append_right _ _ (by simp [h0]), Array.length_toList, h0, List.set_append_right _ _ (by omega), hl]
  rfl
/-- a row of a tree in block b: a list of hashes that is not in b -/
def KRow (w : World) (b : Nat) (v : Value) (l : List (List UInt8)) : Prop := ∃ A m c, v = .slice A m c ∧ ∀ w', But (· ≤ b) w w' → HIn w' A m c l
theorem but_le {w w' : World} {b : Nat} (h : But (· = b) w w') : But (· ≤ b) w w' := ⟨h.os, h.tape, h.output, h.size, fun k hk q => h.same k hk (fun e => q (Nat.le_of_eq e))⟩
theorem KRow.le {w w' : World} {b : Nat} {v : Value} {l : List (List UInt8)} (h : KRow w b v l) (hb : But (· ≤ b) w w') : KRow w' b v l := by
  obtain ⟨A, m, c, h1, h2⟩ := h
  exact ⟨A, m, c, h1, fun w2 h3 => h2 w2 (hb.trans h3)⟩
theorem KRow.step {w w' : World} {b : Nat} {v : Value} {l : List (List UInt8)} (h : KRow w b v l) (hb : But (· = b) w w') : KRow w' b v l := h.le (but_le hb)
theorem KRow.nil (w : World) (b : Nat) : KRow w b (.slice none 0 0) [] := ⟨none, 0, 0, rfl, fun _ _ => ⟨fun z hz => by simp at hz, rfl, Nat.le_refl _, by omega, .inl rfl⟩⟩
theorem KRow.below {w w' : World} {b : Nat} {v : Value} {l : List (List UInt8)} (h : KRow w b v l) (hb : Below w.heap.size w w') : KRow w' b v l :=
  h.le ⟨hb.os, hb.tape, hb.output, hb.size, fun k hk _ => hb.block k hk⟩
/-- a tree of keys in block b: the secret s, the rows f, the height n, the next key's number x -/
structure KAt (w : World) (b : Nat) (s : List UInt8) (f : Nat → List (List UInt8)) (n x : Nat) (v0 : Array Value) (ls : List Value) : Prop where
  sec : (bytesV s).toArray = v0
  s32 : v0.size = 32
  row : w.heap[b]? = some (.cells (keyV v0 ls n x) 51 (0, 0))
  len : ls.length = 7
  rows : ∀ j, j < 7 → ∃ u, ls[j]? = some u ∧ KRow w b u (f j)
theorem KAt.below {w w' : World} {b : Nat} {s : List UInt8} {f : Nat → List (List UInt8)} {n x : Nat} {v0 : Array Value} {ls : List Value} (h : KAt w b s f n x v0 ls) (hb : Below w.heap.size w w') : KAt w' b s f n x v0 ls :=
  ⟨h.sec, h.s32, (hb.block _ (Array.getElem?_eq_some_iff.1 h.row).1).trans h.row, h.len, fun j hj => by
    obtain ⟨u, h1, h2⟩ := h.rows j hj
    exact ⟨u, h1, h2.below hb⟩⟩
/-- a tree of keys abides whatever turns ahead of its block; its own cells may turn -/
theorem KAt.frame {w w' : World} {b : Nat} {s : List UInt8} {f : Nat → List (List UInt8)} {n x y : Nat} {v0 : Array Value} {ls : List Value} (h : KAt w b s f n x v0 ls) (hb : But (· ≤ b) w w') (hr : w'.heap[b]? = some (.cells (keyV v0 ls n y) 51 (0, 0))) : KAt w' b s f n y v0 ls :=
  ⟨h.sec, h.s32, hr, h.len, fun j hj => by
    obtain ⟨u, h1, h2⟩ := h.rows j hj
    exact ⟨u, h1, h2.le hb⟩⟩
theorem KAt.lt {w : World} {b : Nat} {s : List UInt8} {f : Nat → List (List UInt8)} {n x : Nat} {v0 : Array Value} {ls : List Value} (h : KAt w b s f n x v0 ls) : b < w.heap.size := (Array.getElem?_eq_some_iff.1 h.row).1
theorem KAt.range {w : World} {b : Nat} {s : List UInt8} {f : Nat → List (List UInt8)} {n x : Nat} {v0 : Array Value} {ls : List Value} (h : KAt w b s f n x v0 ls) : w.rangeAt b 0 (bytesV s) := fun j v hj => by
  have hl : (bytesV s).length = 32 := by have := h.s32; rw [← h.sec] at this; simpa using this
  have hj' := (List.getElem?_eq_some_iff.1 hj).1
  rw [Nat.zero_add, cell_of_row w b j _ 51 (0, 0) h.row, keyV_sec h.s32 (by omega), ← h.sec, List.getElem?_toArray]
  exact hj
theorem KAt.cells {w : World} {b : Nat} {s : List UInt8} {f : Nat → List (List UInt8)} {n x : Nat} {v0 : Array Value} {ls : List Value} (h : KAt w b s f n x v0 ls) : w.cell? ⟨b, 39, none⟩ = some (.int .i64 n) ∧ w.cell? ⟨b, 40, none⟩ = some (.int .i64 x) ∧ w.cell? ⟨b, 41, none⟩ = some (.bool true) := by
  have q := keyV_last (n := n) (x := x) h.s32 h.len
  refine ⟨?_, ?_, ?_⟩ <;> rw [cell_of_row w b _ _ 51 (0, 0) h.row]
  · exact q.1
  · exact q.2.1
  · exact q.2.2
theorem KAt.list {w : World} {b : Nat} {s : List UInt8} {f : Nat → List (List UInt8)} {n x : Nat} {v0 : Array Value} {ls : List Value} (h : KAt w b s f n x v0 ls) {j : Nat} (hj : j < 7) : ∃ A m c, w.cell? ⟨b, 32 + j, none⟩ = some (.slice A m c) ∧ HIn w A m c (f j) := by
  obtain ⟨u, h1, A, m, c, rfl, h2⟩ := h.rows j hj
  refine ⟨A, m, c, ?_, h2 w (But.refl _ _)⟩
  rw [cell_of_row w b _ _ 51 (0, 0) h.row, keyV_row h.s32 h.len hj]; exact h1
theorem KAt.next {b : Nat} {s : List UInt8} {f : Nat → List (List UInt8)} {n x : Nat} {v0 : Array Value} {ls : List Value} {w : World} (h : KAt w b s f n x v0 ls) (y : Nat) : KAt (w.setCell ⟨b, 40, none⟩ (.int .i64 y)) b s f n y v0 ls := by
  have hb : But (· = b) w (w.setCell ⟨b, 40, none⟩ (.int .i64 y)) := (But.refl _ _).setCell _ _ _ (fun _ => rfl)
  refine ⟨h.sec, h.s32, by rw [heap_setCell_same w b 40 _ 51 _ h.row, keyV_next h.s32 h.len], h.len, fun j hj => ?_⟩
  obtain ⟨u, h1, h2⟩ := h.rows j hj
  exact ⟨u, h1, h2.step hb⟩
theorem wpList_build_key {ops : Array Oper} {rest : List Oper} {o : Oper} {a : Act} {w : World} {Q : Exit → Act → World → Prop} (hw : Region.wanted o (yielded ops a.tmps) = true) (x y z : Operand) (ho : o.op = .build 51 #[(0, x), (2, y), (4, z)]) (v0 : Array Value) (n : Nat) (hx : a.eval x = .agg v0) (hy : a.eval y = .int .i64 n) (hz : a.eval z = .bool true) (h0 : v0.size = 32)
    (h : wpList Tryz.prog ops Q rest (a.put o.dst (.agg (keyV v0 (List.replicate 7 (.slice none 0 0)) n 0))) w) : wpList Tryz.prog ops Q (o :: rest) a w :=
  wpList_step fun K hK => by
    rw [if_pos hw]
    unfold Oper.wp execOp
    simp only [ho, List.map_toArray, List.map_cons, List.map_nil, hx, hy, hz, Sem.run_bind, Sem.run_pure, Result.andThen_ok, built_key v0 h0 n]
    exact hK _ _ h

end Go.Proofs.YtnpblpbcchminaaGreatDoor
