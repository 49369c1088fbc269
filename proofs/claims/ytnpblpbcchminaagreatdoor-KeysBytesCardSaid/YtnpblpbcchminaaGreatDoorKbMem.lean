import Derived.Test.YtnpblpbcchminaaGreatDoorKbAid
import Derived.Below
import Derived.Deep.AppendLies
import Derived.Laws.AppendOwnNone
import Derived.Maps.AppendAt
import Derived.Deep.Draws
import Derived.Deep.RegionHeld3
/- Small facts on memory that the walks of this seat share: a list that is collected in a box. No program in sight. -/
namespace Go.Proofs.YtnpblpbcchminaaGreatDoor
open Go.ChangeShapes Go.WideShapes Go.ChangeAt Go.RowKit
set_option linter.unusedVariables false

theorem cell_below {B : Nat} {w w' : World} (h : Below B w w') {b o : Nat} {v : Value} (hc : w.cell? ⟨b, o, none⟩ = some v) (hb : b < B) : w'.cell? ⟨b, o, none⟩ = some v := (h.cell (p := ⟨b, o, none⟩) hb).trans hc
theorem frozen_below {B : Nat} {w w' : World} (h : Below B w w') {b o : Nat} {v : Bool} (hc : w.frozen? ⟨b, o, none⟩ = v) (hb : b < B) : w'.frozen? ⟨b, o, none⟩ = v := (h.frozen (p := ⟨b, o, none⟩) hb).trans hc
theorem block_of_cell {w : World} {b o : Nat} {v : Value} (hc : w.cell? ⟨b, o, none⟩ = some v) : b < w.heap.size := World.block_lt_of_cell? w ⟨b, o, none⟩ hc

theorem cell_alloc {w : World} {b o : Nat} {v : Value} (hc : w.cell? ⟨b, o, none⟩ = some v) (x : Obj) : (w.alloc x).cell? ⟨b, o, none⟩ = some v := by
  rw [World.cell?_alloc_lt _ _ ⟨b, o, none⟩ (block_of_cell hc)]; exact hc
theorem frozen_alloc {w : World} {b o : Nat} {v : Bool} (hc : w.frozen? ⟨b, o, none⟩ = v) (hb : b < w.heap.size) (x : Obj) : (w.alloc x).frozen? ⟨b, o, none⟩ = v := by
  rw [World.frozen?_alloc_old _ _ ⟨b, o, none⟩ (Nat.ne_of_lt hb)]; exact hc
theorem cell_new {w : World} (c : Array Value) (t : TypeId) (j : Nat) (u : Value) (h : c[j]? = some u) : (w.alloc (.cells c t)).cell? ⟨w.heap.size, j, none⟩ = some u := by
  rw [cell_of_row _ _ j c t (0, 0) (heap_alloc_new w _)]; exact h
theorem news_new {w : World} (c : Array Value) (t : TypeId) : ∀ j u, c.toList[j]? = some u → (w.alloc (.cells c t)).cell? ((⟨w.heap.size, 0, none⟩ : Addr).add j) = some u :=
  World.news_of_block (heap_alloc_new w _)

theorem below_drewN {B n : Nat} {a w : World} (h : Below B a w) : Below B a (w.drewN n) := ⟨h.os, h.tape, h.output, h.size, h.block⟩

theorem addr_add (b j : Nat) : (⟨b, 0, none⟩ : Addr).add j = ⟨b, j, none⟩ := by unfold Addr.add; split <;> simp_all

/-- From w to w' the box Bl and the row of v may have turned, and new blocks have come; the row of v' is v's or new. -/
structure Coll (Bl : Nat) (w w' : World) (v v' : Value) : Prop where
  os : w'.os = w.os
  tape : w'.tape = w.tape
  output : w'.output = w.output
  size : w.heap.size ≤ w'.heap.size
  same : ∀ k, k < w.heap.size → k ≠ Bl → some k ≠ v.ownBlock → w'.heap[k]? = w.heap[k]?
  blk : ∀ k, v'.ownBlock = some k → v.ownBlock = some k ∨ w.heap.size ≤ k

theorem Coll.refl (Bl : Nat) (w : World) (v : Value) : Coll Bl w w v v := ⟨rfl, rfl, rfl, Nat.le_refl _, fun _ _ _ _ => rfl, fun _ h => .inl h⟩
theorem Coll.trans {Bl : Nat} {a b c : World} {u v x : Value} (h : Coll Bl a b u v) (k : Coll Bl b c v x) : Coll Bl a c u x :=
  { os := k.os.trans h.os, tape := k.tape.trans h.tape, output := k.output.trans h.output, size := Nat.le_trans h.size k.size
    same := fun i hi hb hv => (k.same i (Nat.lt_of_lt_of_le hi h.size) hb (fun e => by
      rcases h.blk i e.symm with q | q
      · exact hv q.symm
      · omega)).trans (h.same i hi hb hv)
    blk := fun i hi => by
      rcases k.blk i hi with q | q
      · exact h.blk i q
      · exact .inr (Nat.le_trans h.size q) }
theorem Coll.below {Bl : Nat} {w w' : World} {v : Value} (h : Below w.heap.size w w') : Coll Bl w w' v v :=
  ⟨h.os, h.tape, h.output, h.size, fun k hk _ _ => h.block k hk, fun _ h => .inl h⟩
/-- an append to the row, and its store into the box -/
theorem Coll.append {Bl : Nat} {w w' : World} {v : Value} {g n cap : Nat} (hg : w.grownBy w' v.ownBlock) (hat : v.ownBlock = some g ∨ g = w.heap.size) (u : Value) (hu : u = .slice (some ⟨g, 0, none⟩) n cap) :
    Coll Bl w (w'.setCell ⟨Bl, 0, none⟩ u) v u :=
  { os := hg.os, tape := hg.tape, output := hg.output, size := by simp; exact hg.size
    same := fun k hk hb hv => (Below.heap_setCell w' ⟨Bl, 0, none⟩ u k hb).trans (hg.block k hk hv)
    blk := fun k hk => by
      subst hu
      obtain rfl : g = k := by simpa [Value.ownBlock] using hk
      rcases hat with q | q
      · exact .inl q
      · exact .inr (by omega) }
theorem Coll.cell {Bl : Nat} {w w' : World} {v v' : Value} (h : Coll Bl w w' v v') {b o : Nat} {x : Value} (hc : w.cell? ⟨b, o, none⟩ = some x) (hb : b ≠ Bl) (hv : some b ≠ v.ownBlock) : w'.cell? ⟨b, o, none⟩ = some x :=
  (World.cell?_of_block (a := ⟨b, o, none⟩) (h.same b (block_of_cell hc) hb hv)).trans hc
theorem Coll.frozen {Bl : Nat} {w w' : World} {v v' : Value} (h : Coll Bl w w' v v') {b o : Nat} {x : Bool} (hc : w.frozen? ⟨b, o, none⟩ = x) (hlt : b < w.heap.size) (hb : b ≠ Bl) (hv : some b ≠ v.ownBlock) : w'.frozen? ⟨b, o, none⟩ = x :=
  (World.frozen?_of_block (a := ⟨b, o, none⟩) (h.same b hlt hb hv)).trans hc
/-- what is owned abides a store into another block -/
theorem own_setCell {w : World} {base : Nat} {e : TypeId} {size : Nat} {v : Value} {n : Nat} {xs : List Value} (h : w.ownsRow base e size v n xs) {b o : Nat} (hb : some b ≠ v.ownBlock) (u : Value) : (w.setCell ⟨b, o, none⟩ u).ownsRow base e size v n xs :=
  h.kept (row := some b) ⟨rfl, rfl, rfl, by simp, fun k hk hne => Below.heap_setCell w ⟨b, o, none⟩ u k (fun e => hne (by rw [e]))⟩ (.inr (fun e => hb e.symm))
theorem own_congr {w : World} {base : Nat} {e : TypeId} {size : Nat} {v : Value} {n n' : Nat} {xs xs' : List Value} (h : w.ownsRow base e size v n xs) (hn : n = n') (hx : xs = xs') : w.ownsRow base e size v n' xs' := by
  subst hn; subst hx; exact h
theorem own_drew {w : World} {base : Nat} {e : TypeId} {size : Nat} {v : Value} {n : Nat} {xs : List Value} (h : w.ownsRow base e size v n xs) : w.drew.ownsRow base e size v n xs :=
  h.kept (row := none) ⟨rfl, rfl, rfl, Nat.le_refl _, fun _ _ _ => rfl⟩ (by cases v.ownBlock <;> simp)
theorem own_below {w w' : World} {base : Nat} {e : TypeId} {size : Nat} {v : Value} {n : Nat} {xs : List Value} (h : w.ownsRow base e size v n xs) {B : Nat} (hb : Below B w w') (hB : w.heap.size ≤ B) : w'.ownsRow base e size v n xs :=
  h.kept (row := none) ⟨hb.os, hb.tape, hb.output, hb.size, fun k hk _ => hb.block k (by omega)⟩ (by cases v.ownBlock <;> simp)

theorem Coll.to_below {Bl B : Nat} {w w' : World} {v v' : Value} (h : Coll Bl w w' v v') (hB : B ≤ Bl) (hl : Bl < w.heap.size) (hv : v.ownBlock = none) : Below B w w' :=
  ⟨h.os, h.tape, h.output, h.size, fun k hk => h.same k (by omega) (by omega) (by rw [hv]; simp)⟩
theorem own_mono {w : World} {base base' : Nat} {e : TypeId} {size : Nat} {v : Value} {n : Nat} {xs : List Value} (h : w.ownsRow base e size v n xs) (hb : base' ≤ base) : w.ownsRow base' e size v n xs := by
  refine ⟨h.1, ?_⟩
  rcases h.2 with q | ⟨g, cap, cur, h1, h2, h3⟩
  · exact .inl q
  · exact .inr ⟨g, cap, cur, h1, by omega, h3⟩
/-- in world w the list v reads as xs: n elements of so many cells -/
def Rd (w : World) (v : Value) (size n : Nat) (xs : List Value) : Prop :=
  xs.length = n * size ∧ ∃ A cap, v = .slice A n cap ∧ (n = 0 ∨ ∃ g, A = some ⟨g, 0, none⟩ ∧ ∀ j u, xs[j]? = some u → w.cell? ⟨g, j, none⟩ = some u)
theorem rd_own {w : World} {base : Nat} {e : TypeId} {size : Nat} {v : Value} {n : Nat} {xs : List Value} (h : w.ownsRow base e size v n xs) : Rd w v size n xs := by
  refine ⟨h.1, ?_⟩
  rcases h.2 with ⟨h1, h2⟩ | ⟨g, cap, cur, h1, _⟩
  · exact ⟨none, 0, by rw [h1, h2], .inl h2⟩
  · exact ⟨_, cap, h1, .inr ⟨g, rfl, fun j u hu => by
      have := h.cells (g := g) (by rw [h1]; rfl) j u hu
      rwa [addr_add] at this⟩⟩
theorem Rd.below {w w' : World} {v : Value} {size n : Nat} {xs : List Value} (h : Rd w v size n xs) (hb : Below w.heap.size w w') : Rd w' v size n xs := by
  obtain ⟨h1, A, cap, h2, h3⟩ := h
  refine ⟨h1, A, cap, h2, ?_⟩
  rcases h3 with h3 | ⟨g, h3, h4⟩
  · exact .inl h3
  · exact .inr ⟨g, h3, fun j u hu => cell_below hb (h4 j u hu) (block_of_cell (h4 j u hu))⟩
theorem Rd.congr {w : World} {v : Value} {size n n' : Nat} {xs xs' : List Value} (h : Rd w v size n xs) (hn : n = n') (hx : xs = xs') : Rd w v size n' xs' := by subst hn; subst hx; exact h

theorem Rd.alloc {w : World} {v : Value} {size n : Nat} {xs : List Value} (h : Rd w v size n xs) (o : Obj) : Rd (w.alloc o) v size n xs := h.below ((Below.refl _ _).alloc (Nat.le_refl _) _)
/-- whatever lay in w lies in w' as it lay -/
def Gr (w w' : World) : Prop := Below w.heap.size w w'
theorem Gr.refl (w : World) : Gr w w := Below.refl _ _
theorem Gr.step {a b c : World} (h : Gr a b) (k : Below b.heap.size b c) : Gr a c := Below.trans h (k.mono h.size)
theorem Gr.alloc {a b : World} (h : Gr a b) (o : Obj) : Gr a (b.alloc o) := h.step ((Below.refl _ _).alloc (Nat.le_refl _) _)
theorem Gr.drew {a b : World} (h : Gr a b) : Gr a b.drew := h.step ((Below.refl _ _).drew)
theorem Gr.drewN {a b : World} (h : Gr a b) (n : Nat) : Gr a (b.drewN n) := h.step (below_drewN (Below.refl _ _))

/-- a slice literal that was just laid -/
theorem own_new {w : World} {base : Nat} (c : Array Value) (e : TypeId) (n size : Nat) (hb : base ≤ w.heap.size) (hc : c.size = n * size) (hm : n ≤ maxLen) : (w.alloc (.cells c e)).ownsRow base e size (.slice (some ⟨w.heap.size, 0, none⟩) n n) n c.toList :=
  ⟨by simpa using hc, .inr ⟨w.heap.size, n, c, rfl, hb, heap_alloc_new w _, Nat.le_refl _, hm, hc, by rw [← hc, ← Array.length_toList, List.take_length]⟩⟩
end Go.Proofs.YtnpblpbcchminaaGreatDoor

/- Steps through a region that draws its order, in short. No program in sight. -/
namespace Go.Proofs.YtnpblpbcchminaaGreatDoor
open Go.ChangeShapes Go.WideShapes Go.ChangeAt Go.RowKit
set_option linter.unusedVariables false
section
variable {P : Program} {md : Region.Mode} {ops : Array Oper} {Q : Exit → Act → World → Prop} {S : World → Prop} {i : Nat} {oi : Oper} {v : Value} {fuel : Nat} {listed : Array Bool} {a : Act} {w : World}
theorem tk (hi : ops[i]? = some oi) (hy : ∀ w, S w → (execOp a.eval oi).run P w = .ok (.value v) w) (h : wpAnyH P md ops Q S fuel (listed.setIfInBounds i true) (a.put oi.dst v) w)
    (hs : Region.noSelect ops = true := by kernel_rfl) (hf : Region.free md ops listed i = true := by kernel_rfl) (hr : (Region.ready md ops listed).contains i = true := by kernel_rfl)
    (hQ : ∀ c a w, Q (.panic c) (a.put oi.dst v) w → Q (.panic c) a w := by exact fun _ _ _ h => h) (hw : Region.wanted oi (yielded ops a.tmps) = true := by rfl) (hS : S w := by assumption) :
    wpAnyH P md ops Q S (fuel + 1) listed a w := wpAnyH_take hi hs hf hr hQ (Or.inl ⟨hw, hy⟩) hS h
theorem ts (hi : ops[i]? = some oi) (h : wpAnyH P md ops Q S fuel (listed.setIfInBounds i true) (a.put oi.dst undef) w)
    (hs : Region.noSelect ops = true := by kernel_rfl) (hf : Region.free md ops listed i = true := by kernel_rfl) (hr : (Region.ready md ops listed).contains i = true := by kernel_rfl)
    (hQ : ∀ c a w, Q (.panic c) (a.put oi.dst undef) w → Q (.panic c) a w := by exact fun _ _ _ h => h) (hw : Region.wanted oi (yielded ops a.tmps) = false := by rfl) (hS : S w := by assumption) :
    wpAnyH P md ops Q S (fuel + 1) listed a w := wpAnyH_take hi hs hf hr hQ (Or.inr ⟨hw, rfl⟩) hS h
theorem tw (hi : ops[i]? = some oi) (hy : YieldsIf P ops S oi v a) (h : wpAnyH P md ops Q S fuel (listed.setIfInBounds i true) (a.put oi.dst v) w)
    (hs : Region.noSelect ops = true := by kernel_rfl) (hf : Region.free md ops listed i = true := by kernel_rfl) (hr : (Region.ready md ops listed).contains i = true := by kernel_rfl)
    (hQ : ∀ c a w, Q (.panic c) (a.put oi.dst v) w → Q (.panic c) a w := by exact fun _ _ _ h => h) (hS : S w := by assumption) :
    wpAnyH P md ops Q S (fuel + 1) listed a w := wpAnyH_take hi hs hf hr hQ hy hS h
end
theorem pu : (∀ (a : Act) (d : Tmp) (v : Value), a.put (some d) v = { a with tmps := a.tmps.setIfInBounds d v }) ∧ (∀ (a : Act) (v : Value), a.put none v = a) ∧
    (∀ (xs : List Oper) (i : Nat) (h : i < xs.toArray.size), xs.toArray[i] = xs[i]'(by simpa using h)) ∧ (∀ (x : Oper) (xs : List Oper), (x :: xs)[0]'(by simp) = x) ∧
    (∀ (x : Oper) (xs : List Oper) (i : Nat) (h : i + 1 < (x :: xs).length), (x :: xs)[i + 1] = xs[i]'(by simpa using h)) ∧
    (∀ (xs : List Value) (i : Nat) (v : Value), xs.toArray.setIfInBounds i v = (xs.set i v).toArray) ∧ (∀ (x v : Value) (xs : List Value), (x :: xs).set 0 v = v :: xs) ∧
    (∀ (x v : Value) (xs : List Value) (i : Nat), (x :: xs).set (i + 1) v = x :: xs.set i v) :=
  ⟨fun _ _ _ => rfl, fun _ _ => rfl, fun _ _ _ => by simp, fun _ _ => rfl, fun _ _ _ _ => rfl, fun _ _ _ => by simp, fun _ _ _ => rfl, fun _ _ _ _ => rfl⟩
end Go.Proofs.YtnpblpbcchminaaGreatDoor

