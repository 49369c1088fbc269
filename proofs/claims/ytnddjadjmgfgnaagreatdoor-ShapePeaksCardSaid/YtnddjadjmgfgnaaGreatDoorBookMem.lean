/- Memory facts behind a Book of lists: an append whose old row abides; lists, their rows, marks. No program in sight. -/
import Derived.Test.YtnddjadjmgfgnaaGreatDoorMem
namespace Go.Proofs.YtnddjadjmgfgnaaGreatDoor
open Go.ChangeShapes Go.WideShapes Go.ChangeAt Go.RowKit
set_option linter.unusedVariables false
theorem own_drewN {w : World} {base : Nat} {e : TypeId} {size : Nat} {v : Value} {n q : Nat} {xs : List Value} (h : w.ownsRow base e size v n xs) : (w.drewN q).ownsRow base e size v n xs := own_below h (below_drewN (Below.refl _ _)) (Nat.le_refl _)
theorem cell_drewN {w : World} {b o q : Nat} {v : Value} (h : w.cell? ⟨b, o, none⟩ = some v) : (w.drewN q).cell? ⟨b, o, none⟩ = some v := h
theorem cell_block {w w' : World} {b o : Nat} {v : Value} (hb : w'.heap[b]? = w.heap[b]?) (h : w.cell? ⟨b, o, none⟩ = some v) : w'.cell? ⟨b, o, none⟩ = some v := (World.cell?_of_block (a := ⟨b, o, none⟩) hb).trans h
theorem frozen_block {w w' : World} {b o : Nat} {v : Bool} (hb : w'.heap[b]? = w.heap[b]?) (h : w.frozen? ⟨b, o, none⟩ = v) : w'.frozen? ⟨b, o, none⟩ = v := (World.frozen?_of_block (a := ⟨b, o, none⟩) hb).trans h
theorem cell_grown {w w' : World} {row : Option Nat} {b o : Nat} {v : Value} (hg : w.grownBy w' row) (h : w.cell? ⟨b, o, none⟩ = some v) (hb : some b ≠ row) : w'.cell? ⟨b, o, none⟩ = some v :=
  cell_block (hg.block b (block_of_cell h) hb) h
section
variable {P : Program} (w : World)
/-- append onto an owned list: in its own row, or in a new one, and then all that was there abides -/
theorem run_append_split (base : Nat) (t ty e : TypeId) (i : TypeInfo) (z : Value) (size bytes : Nat) (ht : P.underlying t = some (.slice e)) (hi : P.info? e = some i) (hz : i.zero = some z)
    (hsize : i.size = size) (hby : i.bytes = bytes) (hzs : z.cells.size = size) (hsz : 0 < size) (v : Value) (n : Nat) (xs : List Value) (hown : w.ownsRow base e size v n xs)
    (a : Addr) (m c : Nat) (news : List Value) (hl : news.length = m * size) (hnews : ∀ j u, news[j]? = some u → w.cell? (a.add j) = some u) (h1 : ∀ u ∈ news, u.oneCell' = true)
    (hm : 0 < m) (h63 : n + m ≤ maxLen) (hbytes : (n + m) * bytes ≤ 140737488355328) (hbase : base ≤ w.heap.size) :
    ∃ g cap w', (Builtin.append_ #[t, t] ty #[v, .slice (some a) m c]).run P w = .ok (.slice (some ⟨g, 0, none⟩) (n + m) cap) w' ∧
      w'.ownsRow base e size (.slice (some ⟨g, 0, none⟩) (n + m) cap) (n + m) (xs ++ news) ∧ ((v.ownBlock = some g ∧ w.grownBy w' (some g)) ∨ (w.heap.size ≤ g ∧ w.grownBy w' none)) := by
  obtain ⟨g, cap, w', hr, h2, h3, h4, _⟩ := run_append_lies (P := P) w t ty base e i z size bytes ht hi hz hsize hby hzs hsz v n xs hown a m c news hl hnews h1 hm h63 hbytes hbase _ rfl
  rcases hown.2 with ⟨hv, h0⟩ | ⟨g0, cap0, cur, hv, hbg, hg, hnc, hcm, hcs, htake⟩
  · refine ⟨g, cap, w', hr, h2, .inr ⟨?_, ?_⟩⟩
    · rcases h4 with q | q
      · rw [hv] at q; cases q
      · omega
    · rw [hv] at h3; exact h3
  · by_cases hroom : n + m ≤ cap0
    · have hr2 := run_append_room (P := P) w t ty e i ht hi g0 n cap0 cur hg a m c news (by rw [hsize]; exact hl) hnews h1 hroom (by rw [hsize, hl, hcs, ← Nat.add_mul]; exact Nat.mul_le_mul_right _ hroom)
      rw [← hv, hr] at hr2
      injection hr2 with e1 e2
      have e3 : g = g0 := by injection e1 with e1; injection e1 with e1; injection e1
      subst e3
      refine ⟨g, cap, w', hr, h2, .inl ⟨by rw [hv]; rfl, ?_⟩⟩
      rw [hv] at h3; exact h3
    · have hcells : ∀ j u, xs[j]? = some u → w.cell? ((⟨g0, 0, none⟩ : Addr).add j) = some u := hown.cells (g := g0) (by rw [hv]; rfl)
      obtain ⟨v', w2, hr2, r1, r2⟩ := run_append_arg_grows (P := P) w t ty e i z size bytes ht hi hz hsize hby hzs hsz ⟨g0, 0, none⟩ n cap0 xs hown.1 hcells a m c news hl hnews (by omega) h63 hbytes
      rw [← hv, hr] at hr2
      injection hr2 with e1 e2
      subst e1; subst e2
      exact ⟨g, cap, w', hr, own_mono r1 hbase, .inr ⟨(r1.lt g rfl).1, r2⟩⟩
/-- the same at an operation, guarded or not -/
theorem wpList_append_split {ops : Array Oper} {rest : List Oper} {o : Oper} {a : Act} {Q : Exit → Act → World → Prop} (hw : Region.wanted o (yielded ops a.tmps) = true) (s x : Operand) (t : TypeId)
    (ho : o.op = .call { callee := .builtin .append, args := #[s, x], argTypes := #[t, t] })
    (base : Nat) (e : TypeId) (i : TypeInfo) (z : Value) (size bytes : Nat) (ht : P.underlying t = some (.slice e)) (hi : P.info? e = some i) (hz : i.zero = some z)
    (hsize : i.size = size) (hby : i.bytes = bytes) (hzs : z.cells.size = size) (hsz : 0 < size)
    (v : Value) (n : Nat) (xs : List Value) (hs : a.eval s = v) (hown : w.ownsRow base e size v n xs)
    (ad : Addr) (m c : Nat) (news : List Value) (hx : a.eval x = .slice (some ad) m c) (hl : news.length = m * size) (hnews : ∀ j u, news[j]? = some u → w.cell? (ad.add j) = some u) (h1 : ∀ u ∈ news, u.oneCell' = true)
    (hm : 0 < m) (h63 : n + m ≤ maxLen) (hbytes : (n + m) * bytes ≤ 140737488355328) (hbase : base ≤ w.heap.size)
    (h : ∀ g cap w', w'.ownsRow base e size (.slice (some ⟨g, 0, none⟩) (n + m) cap) (n + m) (xs ++ news) → ((v.ownBlock = some g ∧ w.grownBy w' (some g)) ∨ (w.heap.size ≤ g ∧ w.grownBy w' none)) → wpList P ops Q rest (a.put o.dst (.slice (some ⟨g, 0, none⟩) (n + m) cap)) w') : wpList P ops Q (o :: rest) a w := by
  refine wpList_step fun K hK => ?_
  rw [if_pos hw]
  obtain ⟨g, cap, w', hr, h2, h3⟩ := run_append_split (P := P) w base t o.type e i z size bytes ht hi hz hsize hby hzs hsz v n xs hown ad m c news hl hnews h1 hm h63 hbytes hbase
  unfold Oper.wp execOp
  simp only [ho, resolve, invoke, builtin, Sem.run_bind, Sem.run_pure, Result.andThen_ok, List.map_toArray, List.map_cons, List.map_nil, hs, hx, hr]
  exact hK _ _ (h g cap w' h2 h3)
end
/-- a list that is held: what it is, how many it has, the number of its mark -/
structure Hold where
  v : Value
  n : Nat
  num : Int
/-- the first k elements, of s cells each, are marks -/
def Mk (c : List Value) (s k : Nat) (ys : List Value) : Prop := ∀ j o u, j < k → c[o]? = some u → ys[j * s + o]? = some u
theorem Mk.zero (c : List Value) (s : Nat) (ys : List Value) : Mk c s 0 ys := fun j o u h => by omega
theorem Mk.snoc {c : List Value} {s k : Nat} {ys : List Value} (h : Mk c s k ys) (hl : ys.length = k * s) (hc : c.length = s) : Mk c s (k + 1) (ys ++ c) := by
  intro j o u hj hu
  have ho : o < s := by have := (List.getElem?_eq_some_iff.1 hu).1; omega
  by_cases e : j = k
  · subst e; rw [List.getElem?_append_right (by omega), show j * s + o - ys.length = o by omega]; exact hu
  · have hjk : j < k := by omega
    have : j * s + s ≤ k * s := by rw [← Nat.succ_mul]; exact Nat.mul_le_mul_right _ hjk
    rw [List.getElem?_append_left (by omega)]; exact h j o u hjk hu
/-- the marks of the next element, stored cell by cell -/
def setAll : List Value → Nat → List Value → List Value
  | ys, _, [] => ys
  | ys, p, u :: r => setAll (ys.set p u) (p + 1) r
theorem setAll_length : ∀ (c ys : List Value) (p : Nat), (setAll ys p c).length = ys.length
  | [], _, _ => rfl
  | u :: r, ys, p => by rw [setAll, setAll_length r]; simp
theorem setAll_other : ∀ (c ys : List Value) (p q : Nat), q < p → (setAll ys p c)[q]? = ys[q]?
  | [], _, _, _, _ => rfl
  | u :: r, ys, p, q, h => by rw [setAll, setAll_other r _ _ _ (by omega), List.getElem?_set_ne (by omega)]
theorem setAll_at : ∀ (c ys : List Value) (p o : Nat) (u : Value), p + c.length ≤ ys.length → c[o]? = some u → (setAll ys p c)[p + o]? = some u
  | [], _, _, _, _, _, h => by simp at h
  | x :: r, ys, p, 0, u, hl, h => by
      simp at h hl; subst h
      rw [setAll, setAll_other r _ _ _ (by omega)]; show (ys.set p x)[p]? = some x; exact List.getElem?_set_self (by omega)
  | x :: r, ys, p, o + 1, u, hl, h => by
      rw [setAll, show p + (o + 1) = p + 1 + o by omega]
      exact setAll_at r _ _ _ _ (by simp at hl ⊢; omega) (by simpa using h)
theorem Mk.set {c : List Value} {s k : Nat} {ys : List Value} (h : Mk c s k ys) (hl : k * s + s ≤ ys.length) (hc : c.length = s) : Mk c s (k + 1) (setAll ys (k * s) c) := by
  intro j o u hj hu
  have ho : o < s := by have := (List.getElem?_eq_some_iff.1 hu).1; omega
  by_cases e : j = k
  · subst e; exact setAll_at c ys _ o u (by omega) hu
  · have hjk : j < k := by omega
    have : j * s + s ≤ k * s := by rw [← Nat.succ_mul]; exact Nat.mul_le_mul_right _ hjk
    rw [setAll_other c ys _ _ (by omega)]; exact h j o u hjk hu
/-- the world behind the stores of c from a cell on -/
def storeAll : World → Nat → Nat → List Value → World
  | w, _, _, [] => w
  | w, g, p, u :: r => storeAll (w.setCell ⟨g, p, none⟩ u) g (p + 1) r
theorem storeAll_own {base : Nat} {e : TypeId} {size g n cap : Nat} : ∀ (c : List Value) (w : World) (p : Nat) (xs : List Value), w.ownsRow base e size (.slice (some ⟨g, 0, none⟩) n cap) n xs →
    (storeAll w g p c).ownsRow base e size (.slice (some ⟨g, 0, none⟩) n cap) n (setAll xs p c)
  | [], _, _, _, h => h
  | u :: r, w, p, xs, h => storeAll_own r _ _ _ (h.stored p u).1
theorem storeAll_grown {g : Nat} : ∀ (c : List Value) (w : World) (p : Nat), w.grownBy (storeAll w g p c) (some g)
  | [], _, _ => ⟨rfl, rfl, rfl, Nat.le_refl _, fun _ _ _ => rfl⟩
  | u :: r, w, p => by
      have h := storeAll_grown (g := g) r (w.setCell ⟨g, p, none⟩ u) (p + 1)
      exact ⟨h.os, h.tape, h.output, by have q := h.size; simp at q; exact q, fun k hk hne => (h.block k (by simpa using hk) hne).trans (Below.heap_setCell w ⟨g, p, none⟩ u k (fun e => hne (by rw [e])))⟩
/-- the row of a book: each list, its longer twin, its number -/
structure RowAt (r : Nat) (H : List Hold) (lg : Nat → Value) (w : World) : Prop where
  cells : ∀ (i : Nat) (h : Hold), H[i]? = some h → w.cell? ⟨r, i * 3, none⟩ = some h.v ∧ w.cell? ⟨r, i * 3 + 1, none⟩ = some (lg i) ∧ w.cell? ⟨r, i * 3 + 2, none⟩ = some (.int .i64 h.num)
  free : ∀ i : Nat, w.frozen? ⟨r, i, none⟩ = false
theorem RowAt.block {r : Nat} {H : List Hold} {lg : Nat → Value} {w w' : World} (h : RowAt r H lg w) (hb : w'.heap[r]? = w.heap[r]?) : RowAt r H lg w' :=
  ⟨fun i x hx => by obtain ⟨a, b, c⟩ := h.cells i x hx; exact ⟨cell_block hb a, cell_block hb b, cell_block hb c⟩, fun i => frozen_block hb (h.free i)⟩
/-- the lists lie apart from the book and its row, and from one another -/
structure Away (K r : Nat) (H : List Hold) : Prop where
  kr : K ≠ r
  far : ∀ (i : Nat) (h : Hold), H[i]? = some h → h.v.ownBlock ≠ some K ∧ h.v.ownBlock ≠ some r
  two : ∀ (i j : Nat) (h g : Hold), H[i]? = some h → H[j]? = some g → i ≠ j → h.v.ownBlock = none ∨ h.v.ownBlock ≠ g.v.ownBlock
end Go.Proofs.YtnddjadjmgfgnaaGreatDoor
