import Derived.Test.YtnpblpbcchminaaGreatDoorKbMem
import Derived.Laws.IdiomCopy
import Derived.Laws.Rows
import Derived.Laws.Tables
import Derived.Deep.MidRow
import Derived.Deep.WholeRow
import Derived.Stop.BytesEq
/- Memory facts behind a Book of lists: an append whose old row abides; lists, their rows, marks. No program in sight. -/
namespace Go.Proofs.YtnpblpbcchminaaGreatDoor
open Go.ChangeShapes Go.WideShapes Go.ChangeAt Go.RowKit
set_option linter.unusedVariables false
theorem cell_block {w w' : World} {b o : Nat} {v : Value} (hb : w'.heap[b]? = w.heap[b]?) (h : w.cell? ⟨b, o, none⟩ = some v) : w'.cell? ⟨b, o, none⟩ = some v := (World.cell?_of_block (a := ⟨b, o, none⟩) hb).trans h
theorem frozen_block {w w' : World} {b o : Nat} {v : Bool} (hb : w'.heap[b]? = w.heap[b]?) (h : w.frozen? ⟨b, o, none⟩ = v) : w'.frozen? ⟨b, o, none⟩ = v := (World.frozen?_of_block (a := ⟨b, o, none⟩) hb).trans h
theorem cell_grown {w w' : World} {row : Option Nat} {b o : Nat} {v : Value} (hg : w.grownBy w' row) (h : w.cell? ⟨b, o, none⟩ = some v) (hb : some b ≠ row) : w'.cell? ⟨b, o, none⟩ = some v :=
  cell_block (hg.block b (block_of_cell h) hb) h
section
variable {P : Program} (w : World)
/-- append onto an owned list: in its own row, or in a new one, and then all that was there abides -/
theorem run_append_split (base : Nat) (t ty e : TypeId) (i : TypeInfo) (z : Value) (size bytes : Nat) (ht : P.underlying t = some (.slice e)) (hi : P.info? e = some i) (hz : i.zero = some z)
    (hsize : i.size = size) (hby : i.bytes = bytes) (hzs : z.cells.size = size) (hsz : 0 < size) (v : Value) (n : Nat) (xs : List Value) (hown : w.ownsRow base e size v n xs)
    (a : Addr) (m c : Nat) (news : List Value) (hl : news.length = m * size) (hnews : ∀ j u, news[j]? = some u → w.cell? (a.add j) = some u) (h1 : ∀ u ∈ news, u.oneCell' = true)
    (hm : 0 < m) (h63 : n + m ≤ maxLen) (hbytes : (n + m) * bytes ≤ 140737488355328) (hbase : base ≤ w.heap.size) :
    ∃ g cap w', (Builtin.append_ #[t, t] ty #[v, .slice (some a) m c]).run P w = .ok (.slice (some ⟨g, 0, none⟩) (n + m) cap) w' ∧
      w'.ownsRow base e size (.slice (some ⟨g, 0, none⟩) (n + m) cap) (n + m) (xs ++ news) ∧ ((v.ownBlock = some g ∧ w.grownBy w' (some g)) ∨ (w.heap.size ≤ g ∧ w.grownBy w' none)) := by
  obtain ⟨g, cap, w', hr, h2, h3, h4, _⟩ := run_append_lies (P := P) w t ty base e i z size bytes ht hi hz hsize hby hzs hsz v n xs hown a m c news hl hnews h1 hm h63 hbytes hbase _ rfl
  rcases hown.2 with ⟨hv, h0⟩ | ⟨g0, cap0, cur, hv, hbg, hg, hnc, hcm, hcs, htake⟩
  · refine ⟨g, cap, w', hr, h2, .inr ⟨?_, ?_⟩⟩
    · rcases h4 with q | q
      · rw [hv] at q; cases q
      · omega
    · rw [hv] at h3; exact h3
  · by_cases hroom : n + m ≤ cap0
    · have hr2 := run_append_room (P := P) w t ty e i ht hi g0 n cap0 cur hg a m c news (by rw [hsize]; exact hl) hnews h1 hroom (by rw [hsize, hl, hcs, ← Nat.add_mul]; exact Nat.mul_le_mul_right _ hroom)
      rw [← hv, hr] at hr2
      injection hr2 with e1 e2
      have e3 : g = g0 := by injection e1 with e1; injection e1 with e1; injection e1
      subst e3
      refine ⟨g, cap, w', hr, h2, .inl ⟨by rw [hv]; rfl, ?_⟩⟩
      rw [hv] at h3; exact h3
    · have hcells : ∀ j u, xs[j]? = some u → w.cell? ((⟨g0, 0, none⟩ : Addr).add j) = some u := hown.cells (g := g0) (by rw [hv]; rfl)
      obtain ⟨v', w2, hr2, r1, r2⟩ := run_append_arg_grows (P := P) w t ty e i z size bytes ht hi hz hsize hby hzs hsz ⟨g0, 0, none⟩ n cap0 xs hown.1 hcells a m c news hl hnews (by omega) h63 hbytes
      rw [← hv, hr] at hr2
      injection hr2 with e1 e2
      subst e1; subst e2
      exact ⟨g, cap, w', hr, own_mono r1 hbase, .inr ⟨(r1.lt g rfl).1, r2⟩⟩
/-- the same at an operation, guarded or not -/
theorem wpList_append_split {ops : Array Oper} {rest : List Oper} {o : Oper} {a : Act} {Q : Exit → Act → World → Prop} (hw : Region.wanted o (yielded ops a.tmps) = true) (s x : Operand) (t : TypeId)
    (ho : o.op = .call { callee := .builtin .append, args := #[s, x], argTypes := #[t, t] })
    (base : Nat) (e : TypeId) (i : TypeInfo) (z : Value) (size bytes : Nat) (ht : P.underlying t = some (.slice e)) (hi : P.info? e = some i) (hz : i.zero = some z)
    (hsize : i.size = size) (hby : i.bytes = bytes) (hzs : z.cells.size = size) (hsz : 0 < size)
    (v : Value) (n : Nat) (xs : List Value) (hs : a.eval s = v) (hown : w.ownsRow base e size v n xs)
    (ad : Addr) (m c : Nat) (news : List Value) (hx : a.eval x = .slice (some ad) m c) (hl : news.length = m * size) (hnews : ∀ j u, news[j]? = some u → w.cell? (ad.add j) = some u) (h1 : ∀ u ∈ news, u.oneCell' = true)
    (hm : 0 < m) (h63 : n + m ≤ maxLen) (hbytes : (n + m) * bytes ≤ 140737488355328) (hbase : base ≤ w.heap.size)
    (h : ∀ g cap w', w'.ownsRow base e size (.slice (some ⟨g, 0, none⟩) (n + m) cap) (n + m) (xs ++ news) → ((v.ownBlock = some g ∧ w.grownBy w' (some g)) ∨ (w.heap.size ≤ g ∧ w.grownBy w' none)) → wpList P ops Q rest (a.put o.dst (.slice (some ⟨g, 0, none⟩) (n + m) cap)) w') : wpList P ops Q (o :: rest) a w := by
  refine wpList_step fun K hK => ?_
  rw [if_pos hw]
  obtain ⟨g, cap, w', hr, h2, h3⟩ := run_append_split (P := P) w base t o.type e i z size bytes ht hi hz hsize hby hzs hsz v n xs hown ad m c news hl hnews h1 hm h63 hbytes hbase
  unfold Oper.wp execOp
  simp only [ho, resolve, invoke, builtin, Sem.run_bind, Sem.run_pure, Result.andThen_ok, List.map_toArray, List.map_cons, List.map_nil, hs, hx, hr]
  exact hK _ _ (h g cap w' h2 h3)
end
/-- a list that is held: what it is, how many it has, the number of its mark -/
structure Hold where
  v : Value
  n : Nat
  num : Int
/-- the first k elements, of s cells each, are marks -/
def Mk (c : List Value) (s k : Nat) (ys : List Value) : Prop := ∀ j o u, j < k → c[o]? = some u → ys[j * s + o]? = some u
theorem Mk.zero (c : List Value) (s : Nat) (ys : List Value) : Mk c s 0 ys := fun j o u h => by omega
theorem Mk.snoc {c : List Value} {s k : Nat} {ys : List Value} (h : Mk c s k ys) (hl : ys.length = k * s) (hc : c.length = s) : Mk c s (k + 1) (ys ++ c) := by
  intro j o u hj hu
  have ho : o < s := by have := (List.getElem?_eq_some_iff.1 hu).1; omega
  by_cases e : j = k
  · subst e; rw [List.getElem?_append_right (by omega), show j * s + o - ys.length = o by omega]; exact hu
  · have hjk : j < k := by omega
    have : j * s + s ≤ k * s := by rw [← Nat.succ_mul]; exact Nat.mul_le_mul_right _ hjk
    rw [List.getElem?_append_left (by omega)]; exact h j o u hjk hu
/-- the marks of the next element, stored cell by cell -/
def setAll : List Value → Nat → List Value → List Value
  | ys, _, [] => ys
  | ys, p, u :: r => setAll (ys.set p u) (p + 1) r
theorem setAll_length : ∀ (c ys : List Value) (p : Nat), (setAll ys p c).length = ys.length
  | [], _, _ => rfl
  | u :: r, ys, p => by rw [setAll, setAll_length r]; simp
theorem setAll_other : ∀ (c ys : List Value) (p q : Nat), q < p → (setAll ys p c)[q]? = ys[q]?
  | [], _, _, _, _ => rfl
  | u :: r, ys, p, q, h => by rw [setAll, setAll_other r _ _ _ (by omega), List.getElem?_set_ne (by omega)]
theorem setAll_at : ∀ (c ys : List Value) (p o : Nat) (u : Value), p + c.length ≤ ys.length → c[o]? = some u → (setAll ys p c)[p + o]? = some u
  | [], _, _, _, _, _, h => by simp at h
  | x :: r, ys, p, 0, u, hl, h => by
      simp at h hl; subst h
      rw [setAll, setAll_other r _ _ _ (by omega)]; show (ys.set p x)[p]? = some x; exact List.getElem?_set_self (by omega)
  | x :: r, ys, p, o + 1, u, hl, h => by
      rw [setAll, show p + (o + 1) = p + 1 + o by omega]
      exact setAll_at r _ _ _ _ (by simp at hl ⊢; omega) (by simpa using h)
theorem Mk.set {c : List Value} {s k : Nat} {ys : List Value} (h : Mk c s k ys) (hl : k * s + s ≤ ys.length) (hc : c.length = s) : Mk c s (k + 1) (setAll ys (k * s) c) := by
  intro j o u hj hu
  have ho : o < s := by have := (List.getElem?_eq_some_iff.1 hu).1; omega
  by_cases e : j = k
  · subst e; exact setAll_at c ys _ o u (by omega) hu
  · have hjk : j < k := by omega
    have : j * s + s ≤ k * s := by rw [← Nat.succ_mul]; exact Nat.mul_le_mul_right _ hjk
    rw [setAll_other c ys _ _ (by omega)]; exact h j o u hjk hu
/-- the world behind the stores of c from a cell on -/
def storeAll : World → Nat → Nat → List Value → World
  | w, _, _, [] => w
  | w, g, p, u :: r => storeAll (w.setCell ⟨g, p, none⟩ u) g (p + 1) r
theorem storeAll_own {base : Nat} {e : TypeId} {size g n cap : Nat} : ∀ (c : List Value) (w : World) (p : Nat) (xs : List Value), w.ownsRow base e size (.slice (some ⟨g, 0, none⟩) n cap) n xs →
    (storeAll w g p c).ownsRow base e size (.slice (some ⟨g, 0, none⟩) n cap) n (setAll xs p c)
  | [], _, _, _, h => h
  | u :: r, w, p, xs, h => storeAll_own r _ _ _ (h.stored p u).1
theorem storeAll_grown {g : Nat} : ∀ (c : List Value) (w : World) (p : Nat), w.grownBy (storeAll w g p c) (some g)
  | [], _, _ => ⟨rfl, rfl, rfl, Nat.le_refl _, fun _ _ _ => rfl⟩
  | u :: r, w, p => by
      have h := storeAll_grown (g := g) r (w.setCell ⟨g, p, none⟩ u) (p + 1)
      exact ⟨h.os, h.tape, h.output, by have q := h.size; simp at q; exact q, fun k hk hne => (h.block k (by simpa using hk) hne).trans (Below.heap_setCell w ⟨g, p, none⟩ u k (fun e => hne (by rw [e])))⟩
/-- the row of a book: each list, its longer twin, its number -/
structure RowAt (r : Nat) (H : List Hold) (lg : Nat → Value) (w : World) : Prop where
  cells : ∀ (i : Nat) (h : Hold), H[i]? = some h → w.cell? ⟨r, i * 3, none⟩ = some h.v ∧ w.cell? ⟨r, i * 3 + 1, none⟩ = some (lg i) ∧ w.cell? ⟨r, i * 3 + 2, none⟩ = some (.int .i64 h.num)
  free : ∀ i : Nat, w.frozen? ⟨r, i, none⟩ = false
theorem RowAt.block {r : Nat} {H : List Hold} {lg : Nat → Value} {w w' : World} (h : RowAt r H lg w) (hb : w'.heap[r]? = w.heap[r]?) : RowAt r H lg w' :=
  ⟨fun i x hx => by obtain ⟨a, b, c⟩ := h.cells i x hx; exact ⟨cell_block hb a, cell_block hb b, cell_block hb c⟩, fun i => frozen_block hb (h.free i)⟩
/-- the lists lie apart from the book and its row, and from one another -/
structure Away (K r : Nat) (H : List Hold) : Prop where
  kr : K ≠ r
  far : ∀ (i : Nat) (h : Hold), H[i]? = some h → h.v.ownBlock ≠ some K ∧ h.v.ownBlock ≠ some r
  two : ∀ (i j : Nat) (h g : Hold), H[i]? = some h → H[j]? = some g → i ≠ j → h.v.ownBlock = none ∨ h.v.ownBlock ≠ g.v.ownBlock
end Go.Proofs.YtnpblpbcchminaaGreatDoor

/- From one world to another only some blocks may have turned, and new ones have come. No program in sight. -/
namespace Go.Proofs.YtnpblpbcchminaaGreatDoor
open Go.ChangeShapes Go.WideShapes Go.ChangeAt Go.RowKit
set_option linter.unusedVariables false
/-- only blocks of S (and new ones) may have turned -/
structure But (S : Nat → Prop) (w w' : World) : Prop where
  os : w'.os = w.os
  tape : w'.tape = w.tape
  output : w'.output = w.output
  size : w.heap.size ≤ w'.heap.size
  same : ∀ k, k < w.heap.size → ¬ S k → w'.heap[k]? = w.heap[k]?
theorem But.refl (S : Nat → Prop) (w : World) : But S w w := ⟨rfl, rfl, rfl, Nat.le_refl _, fun _ _ _ => rfl⟩
theorem But.step {S T : Nat → Prop} {a b c : World} (h : But S a b) (k : But T b c) (hs : ∀ i, i < a.heap.size → T i → S i) : But S a c :=
  ⟨k.os.trans h.os, k.tape.trans h.tape, k.output.trans h.output, Nat.le_trans h.size k.size,
    fun i hi hn => (k.same i (Nat.lt_of_lt_of_le hi h.size) (fun q => hn (hs i hi q))).trans (h.same i hi hn)⟩
theorem But.trans {S : Nat → Prop} {a b c : World} (h : But S a b) (k : But S b c) : But S a c := h.step k (fun _ _ q => q)
theorem But.mono {S T : Nat → Prop} {a b : World} (h : But S a b) (hs : ∀ i, i < a.heap.size → S i → T i) : But T a b := (But.refl T a).step h hs
theorem But.of_below {S : Nat → Prop} {B : Nat} {w w' : World} (h : Below B w w') (hS : ∀ k, k < w.heap.size → B ≤ k → S k) : But S w w' :=
  ⟨h.os, h.tape, h.output, h.size, fun k hk hn => h.block k (by
    by_cases hb : k < B
    · exact hb
    · exact absurd (hS k hk (by omega)) hn)⟩
theorem But.new {S : Nat → Prop} {w w' : World} (h : Below w.heap.size w w') : But S w w' := But.of_below h (fun k h1 h2 => by omega)
theorem But.to_below {S : Nat → Prop} {B : Nat} {w w' : World} (h : But S w w') (hB : B ≤ w.heap.size) (hS : ∀ k, k < B → ¬ S k) : Below B w w' :=
  ⟨h.os, h.tape, h.output, h.size, fun k hk => h.same k (by omega) (hS k hk)⟩
theorem But.alloc {S : Nat → Prop} {a b : World} (h : But S a b) (o : Obj) : But S a (b.alloc o) := h.trans (But.new ((Below.refl _ _).alloc (Nat.le_refl _) _))
theorem But.drew {S : Nat → Prop} {a b : World} (h : But S a b) : But S a b.drew := h.trans (But.new ((Below.refl _ _).drew))
theorem But.drewN {S : Nat → Prop} {a b : World} (h : But S a b) (n : Nat) : But S a (b.drewN n) := h.trans (But.new (below_drewN (Below.refl _ _)))
theorem but_setCell (w : World) (b o : Nat) (v : Value) : But (· = b) w (w.setCell ⟨b, o, none⟩ v) :=
  ⟨rfl, rfl, rfl, by simp, fun k _ hn => Below.heap_setCell w ⟨b, o, none⟩ v k hn⟩
theorem But.setCell {S : Nat → Prop} {a b : World} (h : But S a b) (k o : Nat) (v : Value) (hS : k < a.heap.size → S k) : But S a (b.setCell ⟨k, o, none⟩ v) :=
  h.step (but_setCell b k o v) (fun i hi q => by subst q; exact hS hi)
theorem But.setCells {S : Nat → Prop} {k : Nat} : ∀ {vs : List Value} {o : Nat} {a b : World} (_ : But S a b) (_ : k < a.heap.size → S k), But S a (b.setCells k o vs)
  | [], _, _, _, h, _ => h
  | v :: r, o, a, b, h, hS => by
      rw [World.setCells]
      exact But.setCells (h.setCell k o v hS) hS
theorem But.grown {S : Nat → Prop} {a b c : World} {row : Option Nat} (h : But S a b) (hg : b.grownBy c row) (hS : ∀ r, row = some r → r < a.heap.size → S r) : But S a c :=
  h.step (T := fun k => row = some k) ⟨hg.os, hg.tape, hg.output, hg.size, fun k hk hn => hg.block k hk (fun e => hn e.symm)⟩ (fun i hi q => hS i q hi)
theorem But.below {S : Nat → Prop} {a b c : World} (h : But S a b) (k : Below b.heap.size b c) : But S a c := h.trans (But.new k)
theorem But.cell {S : Nat → Prop} {w w' : World} (h : But S w w') {b o : Nat} {v : Value} (hc : w.cell? ⟨b, o, none⟩ = some v) (hb : ¬ S b) : w'.cell? ⟨b, o, none⟩ = some v :=
  cell_block (h.same b (block_of_cell hc) hb) hc
theorem But.frozen {S : Nat → Prop} {w w' : World} (h : But S w w') {b o : Nat} {v : Bool} (hc : w.frozen? ⟨b, o, none⟩ = v) (hlt : b < w.heap.size) (hb : ¬ S b) : w'.frozen? ⟨b, o, none⟩ = v :=
  frozen_block (h.same b hlt hb) hc
theorem own_but {S : Nat → Prop} {w w' : World} {base : Nat} {e : TypeId} {size : Nat} {v : Value} {n : Nat} {xs : List Value} (h : w.ownsRow base e size v n xs) (hb : But S w w') (hS : ∀ k, v.ownBlock = some k → ¬ S k) : w'.ownsRow base e size v n xs := by
  refine ⟨h.1, ?_⟩
  rcases h.2 with hn | ⟨g, cap, cur, rfl, hb', hgg, rest⟩
  · exact .inl hn
  · exact .inr ⟨g, cap, cur, rfl, hb', (hb.same g (Array.getElem?_eq_some_iff.1 hgg).1 (hS g rfl)).trans hgg, rest⟩
/-- a shorter slice of an owned row -/
theorem own_take {w : World} {base : Nat} {e : TypeId} {size : Nat} {A : Option Addr} {n cap : Nat} {xs : List Value} (h : w.ownsRow base e size (.slice A n cap) n xs) (k : Nat) (hk : k ≤ n) :
    w.ownsRow base e size (.slice A k cap) k (xs.take (k * size)) := by
  have hks : k * size ≤ n * size := Nat.mul_le_mul_right _ hk
  refine ⟨by rw [List.length_take, h.1]; omega, ?_⟩
  rcases h.2 with ⟨hv, h0⟩ | ⟨g, cap', cur, hv, hb', hgg, h1, h2, h3, h4⟩
  · cases hv
    obtain rfl : k = 0 := by omega
    exact .inl ⟨rfl, rfl⟩
  · cases hv
    refine .inr ⟨g, cap, cur, rfl, hb', hgg, by omega, h2, h3, ?_⟩
    rw [← h4, List.take_take, Nat.min_eq_left hks]
end Go.Proofs.YtnpblpbcchminaaGreatDoor

/- A block that is a row of numbers. No program in sight. -/
namespace Go.Proofs.YtnpblpbcchminaaGreatDoor
open Go.ChangeShapes Go.WideShapes Go.ChangeAt Go.RowKit
set_option linter.unusedVariables false
/-- block b is a row of numbers of kind k -/
def IRow (w : World) (b : Nat) (k : IntKind) (t : TypeId) (xs : List Int) : Prop := w.heap[b]? = some (.cells (xs.map (Value.int k)).toArray t (0, 0))
theorem IRow.lt {w : World} {b : Nat} {k : IntKind} {t : TypeId} {xs : List Int} (h : IRow w b k t xs) : b < w.heap.size := (Array.getElem?_eq_some_iff.1 h).1
theorem IRow.cell {w : World} {b : Nat} {k : IntKind} {t : TypeId} {xs : List Int} (h : IRow w b k t xs) {j : Nat} {x : Int} (hx : xs[j]? = some x) : w.cell? ⟨b, j, none⟩ = some (.int k x) := by
  rw [cell_of_row w b j _ t (0, 0) h]; simp [hx]
theorem IRow.frozen {w : World} {b : Nat} {k : IntKind} {t : TypeId} {xs : List Int} (h : IRow w b k t xs) (j : Nat) : w.frozen? ⟨b, j, none⟩ = false := frozen_of_row w b j _ t h
theorem IRow.set {w : World} {b : Nat} {k : IntKind} {t : TypeId} {xs : List Int} (h : IRow w b k t xs) (j : Nat) (x : Int) : IRow (w.setCell ⟨b, j, none⟩ (.int k x)) b k t (xs.set j x) := by
  unfold IRow
  rw [heap_setCell_same w b j _ t _ h]
  congr 2
  simp
theorem IRow.block {w w' : World} {b : Nat} {k : IntKind} {t : TypeId} {xs : List Int} (h : IRow w b k t xs) (hb : w'.heap[b]? = w.heap[b]?) : IRow w' b k t xs := hb.trans h
theorem IRow.below {B : Nat} {w w' : World} {b : Nat} {k : IntKind} {t : TypeId} {xs : List Int} (h : IRow w b k t xs) (hb : Below B w w') (hlt : b < B) : IRow w' b k t xs := h.block (hb.block b hlt)
theorem IRow.alloc {w : World} {b : Nat} {k : IntKind} {t : TypeId} {xs : List Int} (h : IRow w b k t xs) (o : Obj) : IRow (w.alloc o) b k t xs := h.below ((Below.refl _ w).alloc (Nat.le_refl _) o) h.lt
theorem IRow.setOther {w : World} {b : Nat} {k : IntKind} {t : TypeId} {xs : List Int} (h : IRow w b k t xs) {a : Addr} (hne : b ≠ a.block) (v : Value) : IRow (w.setCell a v) b k t xs := h.block (heap_setCell_other w a b v hne)
theorem IRow.drewN {w : World} {b : Nat} {k : IntKind} {t : TypeId} {xs : List Int} (h : IRow w b k t xs) (n : Nat) : IRow (w.drewN n) b k t xs := h
theorem irow_new {w : World} (k : IntKind) (t : TypeId) (xs : List Int) (c : Array Value) (h : c = (xs.map (Value.int k)).toArray) : IRow (w.alloc (.cells c t)) w.heap.size k t xs := by subst h; exact heap_alloc_new w _
theorem IRow.congr {w : World} {b : Nat} {k : IntKind} {t : TypeId} {xs ys : List Int} (h : IRow w b k t xs) (e : xs = ys) : IRow w b k t ys := e ▸ h
theorem cell_set_ne {w : World} {b i j : Nat} (v : Value) (h : ¬ i = j) : (w.setCell ⟨b, i, none⟩ v).cell? ⟨b, j, none⟩ = w.cell? ⟨b, j, none⟩ := World.cell?_setCell_other _ _ _ _ (by intro e; injection e; contradiction)
end Go.Proofs.YtnpblpbcchminaaGreatDoor

/- Bytes, hashes and lists of hashes in memory. No program in sight. -/
namespace Go.Proofs.YtnpblpbcchminaaGreatDoor
open Go.ChangeShapes Go.WideShapes Go.ChangeAt Go.RowKit
set_option linter.unusedVariables false
/-- a byte's cell; a hash as a value; the cells of a list of hashes -/
def byteV (b : UInt8) : Value := .int .u8 (b.toNat : Int)
def bytesV (l : List UInt8) : List Value := l.map byteV
def hv (h : List UInt8) : Value := .agg (bytesV h).toArray
def hashCells (l : List (List UInt8)) : List Value := l.flatMap bytesV
def H32 (l : List (List UInt8)) : Prop := ∀ h ∈ l, h.length = 32
theorem bytesV_length (l : List UInt8) : (bytesV l).length = l.length := by simp [bytesV]
theorem bytesV_append (a b : List UInt8) : bytesV (a ++ b) = bytesV a ++ bytesV b := by simp [bytesV]
theorem bytesV_one (l : List UInt8) : ∀ u ∈ bytesV l, u.oneCell' = true := by
  intro u hu; simp only [bytesV, List.mem_map] at hu; obtain ⟨b, _, rfl⟩ := hu; rfl
theorem bytesV_all (l : List UInt8) : (bytesV l).toArray.all (·.oneCell') = true := all_oneCell_toArray (bytesV_one l)
theorem bytesV_get {l : List UInt8} {j : Nat} {b : UInt8} (h : l[j]? = some b) : (bytesV l)[j]? = some (byteV b) := by simp [bytesV, h]
theorem bytesV_take (l : List UInt8) (k : Nat) : bytesV (l.take k) = (bytesV l).take k := by simp [bytesV, List.map_take]
theorem bytesV_drop (l : List UInt8) (k : Nat) : bytesV (l.drop k) = (bytesV l).drop k := by simp [bytesV, List.map_drop]
theorem byteV_ofInt (x : Int) : byteV (UInt8.ofNat (x % 256).toNat) = .int .u8 (x % 256) := by
  unfold byteV
  have h0 : 0 ≤ x % 256 := Int.emod_nonneg _ (by omega)
  have h1 : x % 256 < 256 := Int.emod_lt_of_pos _ (by omega)
  have : (UInt8.ofNat (x % 256).toNat).toNat = (x % 256).toNat := by
    rw [UInt8.toNat_ofNat']; omega
  rw [this]; congr 1; omega
theorem hashCells_cons (x : List UInt8) (l : List (List UInt8)) : hashCells (x :: l) = bytesV x ++ hashCells l := rfl
theorem hashCells_append (a b : List (List UInt8)) : hashCells (a ++ b) = hashCells a ++ hashCells b := by simp [hashCells]
theorem hashCells_one (x : List UInt8) : hashCells [x] = bytesV x := by simp [hashCells]
theorem hashCells_length : ∀ {l : List (List UInt8)}, H32 l → (hashCells l).length = l.length * 32
  | [], _ => rfl
  | x :: l, h => by
      rw [hashCells_cons, List.length_append, bytesV_length, hashCells_length (l := l) (fun y hy => h y (by simp [hy])), h x (by simp)]; simp; omega
theorem hashCells_at : ∀ {l : List (List UInt8)} (_ : H32 l) {i : Nat} {x : List UInt8} (_ : l[i]? = some x) {j : Nat} {u : Value} (_ : (bytesV x)[j]? = some u), (hashCells l)[i * 32 + j]? = some u
  | [], _, i, x, h, _, _, _ => by simp at h
  | y :: l, h, 0, x, hx, j, u, hu => by
      simp at hx; subst hx
      have hj : j < (bytesV y).length := (List.getElem?_eq_some_iff.1 hu).1
      rw [hashCells_cons, Nat.zero_mul, Nat.zero_add, List.getElem?_append_left hj]; exact hu
  | y :: l, h, i + 1, x, hx, j, u, hu => by
      have hy : (bytesV y).length = 32 := by rw [bytesV_length]; exact h y (by simp)
      rw [hashCells_cons, List.getElem?_append_right (by omega), show (i + 1) * 32 + j - (bytesV y).length = i * 32 + j by omega]
      exact hashCells_at (fun z hz => h z (by simp [hz])) (by simpa using hx) hu
theorem hashCells_cell (l : List (List UInt8)) : ∀ u ∈ hashCells l, u.oneCell' = true := by
  intro u hu
  simp only [hashCells, List.mem_flatMap] at hu
  obtain ⟨x, _, hx⟩ := hu
  exact bytesV_one x u hx
theorem H32.nil : H32 [] := fun _ h => by simp at h
theorem H32.append {a b : List (List UInt8)} (h : H32 a) (g : H32 b) : H32 (a ++ b) := fun x hx => by
  rcases List.mem_append.1 hx with q | q
  · exact h x q
  · exact g x q
theorem H32.one {x : List UInt8} (h : x.length = 32) : H32 [x] := fun y hy => by simp at hy; subst hy; exact h
theorem H32.at {l : List (List UInt8)} (h : H32 l) {i : Nat} {x : List UInt8} (hx : l[i]? = some x) : x.length = 32 := h x (List.mem_of_getElem? hx)
theorem H32.drop {l : List (List UInt8)} (h : H32 l) (k : Nat) : H32 (l.drop k) := fun x hx => h x (List.mem_of_mem_drop hx)
theorem H32.take {l : List (List UInt8)} (h : H32 l) (k : Nat) : H32 (l.take k) := fun x hx => h x (List.mem_of_mem_take hx)
theorem rangeAt_below {B : Nat} {w w' : World} (hb : Below B w w') {b o : Nat} {cs : List Value} (h : w.rangeAt b o cs) (hlt : b < B) : w'.rangeAt b o cs := fun j v hj => cell_below hb (h j v hj) hlt
theorem rangeAt_block {w w' : World} {b o : Nat} {cs : List Value} (hb : w'.heap[b]? = w.heap[b]?) (h : w.rangeAt b o cs) : w'.rangeAt b o cs := fun j v hj => cell_block hb (h j v hj)
theorem rangeAt_lt {w : World} {b o : Nat} {cs : List Value} (h : w.rangeAt b o cs) (hc : cs ≠ []) : b < w.heap.size := by
  cases cs with
  | nil => exact absurd rfl hc
  | cons x r => exact block_of_cell (h 0 x rfl)
theorem rangeAt_sub {w : World} {b o : Nat} {cs : List Value} (h : w.rangeAt b o cs) (k n : Nat) : w.rangeAt b (o + k) ((cs.drop k).take n) := fun j v hj => by
  by_cases hn : j < n
  · rw [List.getElem?_take_of_lt hn, List.getElem?_drop] at hj
    rw [Nat.add_assoc]; exact h _ _ hj
  · rw [List.getElem?_eq_none (by simp; omega)] at hj; cases hj
/-- a slice of bytes reads as ys -/
def BRd (w : World) (v : Value) (ys : List UInt8) : Prop :=
  ∃ A cap, v = .slice A ys.length cap ∧ ys.length ≤ cap ∧ (ys = [] ∨ ∃ b o, A = some ⟨b, o, none⟩ ∧ w.rangeAt b o (bytesV ys))
/-- a list of hashes reads as l -/
def HRd (w : World) (v : Value) (l : List (List UInt8)) : Prop :=
  H32 l ∧ ∃ A cap, v = .slice A l.length cap ∧ l.length ≤ cap ∧ (l = [] ∨ ∃ b o, A = some ⟨b, o, none⟩ ∧ w.rangeAt b o (hashCells l))
theorem BRd.below {w w' : World} {v : Value} {ys : List UInt8} (h : BRd w v ys) (hb : Below w.heap.size w w') : BRd w' v ys := by
  obtain ⟨A, cap, h1, h2, h3⟩ := h
  refine ⟨A, cap, h1, h2, ?_⟩
  rcases h3 with h3 | ⟨b, o, h3, h4⟩
  · exact .inl h3
  · by_cases hy : ys = []
    · exact .inl hy
    · exact .inr ⟨b, o, h3, rangeAt_below hb h4 (rangeAt_lt h4 (by simpa [bytesV] using hy))⟩
theorem HRd.below {w w' : World} {v : Value} {l : List (List UInt8)} (h : HRd w v l) (hb : Below w.heap.size w w') : HRd w' v l := by
  obtain ⟨h0, A, cap, h1, h2, h3⟩ := h
  refine ⟨h0, A, cap, h1, h2, ?_⟩
  rcases h3 with h3 | ⟨b, o, h3, h4⟩
  · exact .inl h3
  · by_cases hy : l = []
    · exact .inl hy
    · refine .inr ⟨b, o, h3, rangeAt_below hb h4 (rangeAt_lt h4 (fun e => ?_))⟩
      have := hashCells_length h0
      rw [e] at this
      cases l with
      | nil => exact hy rfl
      | cons x r => simp at this
theorem BRd.alloc {w : World} {v : Value} {ys : List UInt8} (h : BRd w v ys) (o : Obj) : BRd (w.alloc o) v ys := h.below ((Below.refl _ _).alloc (Nat.le_refl _) _)
theorem HRd.alloc {w : World} {v : Value} {l : List (List UInt8)} (h : HRd w v l) (o : Obj) : HRd (w.alloc o) v l := h.below ((Below.refl _ _).alloc (Nat.le_refl _) _)
/-- one hash of a list: where it lies -/
theorem HRd.at {w : World} {v : Value} {l : List (List UInt8)} (h : HRd w v l) {i : Nat} {x : List UInt8} (hx : l[i]? = some x) : ∃ b o cap, v = .slice (some ⟨b, o, none⟩) l.length cap ∧ w.rangeAt b (o + i * 32) (bytesV x) ∧ x.length = 32 ∧ l.length ≤ cap := by
  obtain ⟨h0, A, cap, h1, h2, h3⟩ := h
  rcases h3 with rfl | ⟨b, o, rfl, h4⟩
  · simp at hx
  · exact ⟨b, o, cap, h1, fun j u hu => by rw [Nat.add_assoc]; exact h4 _ _ (hashCells_at h0 hx hu), h0.at hx, h2⟩
theorem hrd_own {w : World} {base : Nat} {e : TypeId} {v : Value} {l : List (List UInt8)} (h0 : H32 l) (h : w.ownsRow base e 32 v l.length (hashCells l)) : HRd w v l := by
  refine ⟨h0, ?_⟩
  rcases h.2 with ⟨h1, h2⟩ | ⟨g, cap, cur, h1, _, _, h3, _⟩
  · exact ⟨none, 0, by rw [h1, h2], by omega, .inl (List.length_eq_zero_iff.1 h2)⟩
  · exact ⟨_, cap, h1, h3, .inr ⟨g, 0, rfl, fun j u hu => by
      have := h.cells (g := g) (by rw [h1]; rfl) j u hu
      rw [Nat.zero_add]; rwa [addr_add] at this⟩⟩
section
variable {P : Program} (w : World)
theorem run_equalIn_hash (d : Nat) (t e : TypeId) (n : Nat) (ht : P.underlying t = some (.array n e)) (he : P.underlying e = some (.int .u8)) (hsz : ∀ w, (sizeOf e).run P w = .ok 1 w)
    (xs ys : List UInt8) (hx : xs.length = n) (hy : ys.length = n) :
    (Op.equalIn (d + 2) t (.agg (bytesV xs).toArray) (.agg (bytesV ys).toArray)).run P w = .ok (xs == ys) w :=
  run_equalIn_bytes w d t e n ht he hsz xs ys hx hy
end
end Go.Proofs.YtnpblpbcchminaaGreatDoor

/- From one world to another: a whole row stored. No program in sight. -/
namespace Go.Proofs.YtnpblpbcchminaaGreatDoor
open Go.ChangeShapes Go.WideShapes Go.ChangeAt Go.RowKit
set_option linter.unusedVariables false
theorem But.setRow {S : Nat → Prop} {a b : World} (h : But S a b) (g : Nat) (cs : Array Value) (hS : g < a.heap.size → S g) : But S a (b.setRow g cs) :=
  h.step (T := (· = g)) ⟨rfl, rfl, rfl, by simp, fun k _ hn => setRow_other b g k cs hn⟩ (fun i hi q => by subst q; exact hS hi)
theorem below_setRow {B : Nat} {a b : World} (h : Below B a b) (g : Nat) (cs : Array Value) (hg : B ≤ g) : Below B a (b.setRow g cs) :=
  ⟨h.os, h.tape, h.output, by simp; exact h.size, fun k hk => (setRow_other b g k cs (by omega)).trans (h.block k hk)⟩
end Go.Proofs.YtnpblpbcchminaaGreatDoor

