import Derived.Test.YtnpblpbcchminaaGreatDoorKbPairHash
import Derived.Test.YtnpblpbcchminaaGreatDoorKbKrefDd
import Derived.Test.YtnpblpbcchminaaGreatDoorKbLawKVer
/- cartularylaw01.Book: any number of lists of hashes, kept one behind the other. No condition. -/
namespace Go.Proofs.YtnpblpbcchminaaGreatDoor
open Go.ChangeShapes Go.WideShapes Go.ChangeAt Go.RowKit
set_option linter.unusedVariables false
def rowsOf (H : List Hold) : List Value := H.flatMap fun h => [h.v, .slice none 0 0, .int .i64 h.num]
theorem rowsOf_snoc (H : List Hold) (x : Hold) : rowsOf (H ++ [x]) = rowsOf H ++ [x.v, .slice none 0 0, .int .i64 x.num] := by simp [rowsOf]
theorem rowsOf_at : ∀ (H : List Hold) (t : Nat) (h : Hold), H[t]? = some h → (rowsOf H)[t * 3]? = some h.v ∧ (rowsOf H)[t * 3 + 1]? = some (.slice none 0 0) ∧ (rowsOf H)[t * 3 + 2]? = some (.int .i64 h.num)
  | [], t, h, hh => by simp at hh
  | x :: H, 0, h, hh => by
    simp at hh; subst hh
    exact ⟨rfl, rfl, rfl⟩
  | x :: H, t + 1, h, hh => by
    have ih := rowsOf_at H t h (by simpa using hh)
    have e : rowsOf (x :: H) = x.v :: .slice none 0 0 :: .int .i64 x.num :: rowsOf H := by simp [rowsOf]
    rw [e, show (t + 1) * 3 = t * 3 + 1 + 1 + 1 by omega, show t * 3 + 1 + 1 + 1 + 1 = (t * 3 + 1) + 1 + 1 + 1 by omega, show t * 3 + 1 + 1 + 1 + 2 = (t * 3 + 2) + 1 + 1 + 1 by omega]
    simpa only [List.getElem?_cons_succ] using ih
/-- a book in block K that keeps the lists H; rv: its rows -/
structure BAt (base K : Nat) (H : List Hold) (rv : Value) (w : World) : Prop where
  book : BookHash K H.length rv w
  rows : w.ownsRow base 157 3 rv H.length (rowsOf H)
  kr : rv.ownBlock ≠ some K
  bk : base ≤ K ∧ K < w.heap.size
  lists : ∀ (t : Nat) (h : Hold), H[t]? = some h → (∃ ys, w.ownsRow base 23 32 h.v h.n ys) ∧ h.num = (t : Int) + 1 ∧ h.n ≤ 1000000
  far : ∀ (t : Nat) (h : Hold), H[t]? = some h → h.v.ownBlock ≠ some K ∧ (h.v.ownBlock = none ∨ h.v.ownBlock ≠ rv.ownBlock)
  two : ∀ (i j : Nat) (h g : Hold), H[i]? = some h → H[j]? = some g → i ≠ j → h.v.ownBlock = none ∨ h.v.ownBlock ≠ g.v.ownBlock
theorem BAt.new (w : World) : BAt w.heap.size w.heap.size [] (.slice none 0 0) (w.alloc (.cells #[.int .i64 0, .slice none 0 0, .slice none 0 0, .slice none 0 0, .slice none 0 0, .slice none 0 0, .slice none 0 0, .slice none 0 0, .slice none 0 0, .slice none 0 0, .slice none 0 0, .slice none 0 0, .slice none 0 0, .slice none 0 0, .slice none 0 0, .slice none 0 0, .slice none 0 0] 69)) :=
  ⟨bookHash_new w, World.ownsRow_nil _ _ _ _, (fun q => by cases q), ⟨Nat.le_refl _, (by rw [World.size_alloc]; exact Nat.lt_succ_self _)⟩, (fun t h hh => by rw [List.getElem?_nil] at hh; cases hh), (fun t h hh => by rw [List.getElem?_nil] at hh; cases hh), (fun i j h g hh => by rw [List.getElem?_nil] at hh; cases hh)⟩
theorem BAt.below {base K : Nat} {H : List Hold} {rv : Value} {w w' : World} (h : BAt base K H rv w) (hb : Below w.heap.size w w') : BAt base K H rv w' :=
  ⟨h.book.block (hb.block _ h.bk.2), own_below h.rows hb (Nat.le_refl _), h.kr, ⟨h.bk.1, Nat.lt_of_lt_of_le h.bk.2 hb.size⟩, fun t x hx => by
    obtain ⟨⟨ys, o⟩, a⟩ := h.lists t x hx
    exact ⟨⟨ys, own_below o hb (Nat.le_refl _)⟩, a⟩, h.far, h.two⟩
theorem bat_keep (base K : Nat) (H : List Hold) (rv : Value) (A : Option Addr) (n cap : Nat) (ys : List Value) (w : World) (hB : BAt base K H rv w) (hl : H.length < 1000000) (ho : w.ownsRow base 23 32 (.slice A n cap) n ys) (hn : n ≤ 1000000)
    (hK : (Value.slice A n cap).ownBlock ≠ some K) (hr : (Value.slice A n cap).ownBlock = none ∨ (Value.slice A n cap).ownBlock ≠ rv.ownBlock) (h2 : ∀ (t : Nat) (h : Hold), H[t]? = some h → h.v.ownBlock = none ∨ h.v.ownBlock ≠ (Value.slice A n cap).ownBlock) :
    Calls Tryz.prog 53 #[.pointer (some ⟨K, 0, none⟩), .slice A n cap] w fun ev w' => ev = .returned (.tuple #[]) ∧ ∃ rv', BAt base K (H ++ [⟨.slice A n cap, n, (H.length : Int) + 1⟩]) rv' w' ∧ Coll K w w' rv rv' := by
  obtain ⟨rA, rc, rfl, -⟩ := own_shape hB.rows
  have hbase : base ≤ w.heap.size := Nat.le_of_lt (Nat.lt_of_le_of_lt hB.bk.1 hB.bk.2)
  refine (book_hash base K H.length H.length rA H.length rc (rowsOf H) A n cap w hB.book hB.rows hB.kr (by omega) (by omega) (by omega) hbase).mono ?_
  rintro ev w' ⟨rfl, g, cap2, b1, o1, c1⟩
  have hg : ∀ x : Value, (∀ k, x.ownBlock = some k → k < w.heap.size) → (x.ownBlock = none ∨ x.ownBlock ≠ (Value.slice rA H.length rc).ownBlock) → x.ownBlock = none ∨ x.ownBlock ≠ (Value.slice (some ⟨g, 0, none⟩) (H.length + 1) cap2).ownBlock := fun x hlt hx => by
    rcases hx with hx | hx
    · exact .inl hx
    · refine .inr fun q => ?_
      rcases c1.blk g rfl with z | z
      · exact hx (by rw [q, z]; rfl)
      · have := hlt g (by rw [q]; rfl); omega
  refine ⟨rfl, .slice (some ⟨g, 0, none⟩) (H.length + 1) cap2, ⟨?_, ?_, ?_, ⟨hB.bk.1, Nat.lt_of_lt_of_le hB.bk.2 c1.size⟩, ?_, ?_, ?_⟩, c1⟩
  · rw [List.length_append]; exact b1
  · rw [List.length_append, rowsOf_snoc]; exact o1
  · intro q
    rcases c1.blk g rfl with z | z
    · exact hB.kr (by rw [z]; exact q)
    · have q2 : g = K := by simpa [Value.ownBlock] using q
      have := hB.bk.2; omega
  · intro t x hx
    by_cases ht : t < H.length
    · rw [List.getElem?_append_left ht] at hx
      obtain ⟨⟨zs, o⟩, a⟩ := hB.lists t x hx
      exact ⟨⟨zs, own_collHash o c1 (fun q => (hB.far t x hx).1 q.symm) (hB.far t x hx).2⟩, a⟩
    · rw [List.getElem?_append_right (by omega)] at hx
      have h0 : t - H.length = 0 := by have := (List.getElem?_eq_some_iff.1 hx).1; simp at this; omega
      rw [h0] at hx
      simp at hx; subst hx
      exact ⟨⟨ys, own_collHash ho c1 (fun q => hK q.symm) hr⟩, by simp; omega, hn⟩
  · intro t x hx
    by_cases ht : t < H.length
    · rw [List.getElem?_append_left ht] at hx
      obtain ⟨⟨zs, o⟩, a⟩ := hB.lists t x hx
      exact ⟨(hB.far t x hx).1, hg x.v (fun k q => (o.lt k q).2) (hB.far t x hx).2⟩
    · rw [List.getElem?_append_right (by omega)] at hx
      have h0 : t - H.length = 0 := by have := (List.getElem?_eq_some_iff.1 hx).1; simp at this; omega
      rw [h0] at hx
      simp at hx; subst hx
      exact ⟨hK, hg _ (fun k q => (ho.lt k q).2) hr⟩
  · intro i j x y hx hy hij
    by_cases hi : i < H.length
    · rw [List.getElem?_append_left hi] at hx
      by_cases hj : j < H.length
      · rw [List.getElem?_append_left hj] at hy
        exact hB.two i j x y hx hy hij
      · rw [List.getElem?_append_right (by omega)] at hy
        have h0 : j - H.length = 0 := by have := (List.getElem?_eq_some_iff.1 hy).1; simp at this; omega
        rw [h0] at hy
        simp at hy; subst hy
        exact h2 i x hx
    · rw [List.getElem?_append_right (by omega)] at hx
      have h0 : i - H.length = 0 := by have := (List.getElem?_eq_some_iff.1 hx).1; simp at this; omega
      rw [h0] at hx
      simp at hx; subst hx
      by_cases hj : j < H.length
      · rw [List.getElem?_append_left hj] at hy
        rcases h2 j y hy with z | z
        · by_cases hz : (Value.slice A n cap).ownBlock = none
          · exact .inl hz
          · exact .inr (by rw [z]; exact hz)
        · exact .inr (fun q => z q.symm)
      · exfalso
        have := (List.getElem?_eq_some_iff.1 hy).1
        simp at this; omega
theorem bat_apart (base K : Nat) (H : List Hold) (rv : Value) (w : World) (hB : BAt base K H rv w) (hl : H.length ≤ 1000000) (h0 : 0 < H.length) :
    Calls Tryz.prog 25 #[.pointer (some ⟨K, 0, none⟩)] w fun ev w' => ev = .returned (.bool true) ∧ Below base w w' := by
  obtain ⟨r, cap, rfl, hr1, hr2⟩ : ∃ g cap, rv = .slice (some ⟨g, 0, none⟩) H.length cap ∧ base ≤ g ∧ g < w.heap.size := by
    rcases hB.rows.2 with ⟨_, z⟩ | ⟨g, cap, cur, hv, hb, hg, _⟩
    · omega
    · exact ⟨g, cap, hv, hb, (Array.getElem?_eq_some_iff.1 hg).1⟩
  have hc := hB.rows.cells (g := r) rfl
  refine apart_hash base K r H.length cap H.length H w rfl (by omega) (Nat.le_of_lt (Nat.lt_of_le_of_lt hB.bk.1 hB.bk.2)) hB.book ⟨fun i h hi => ?_, fun i => hB.rows.frozenAt i⟩ hr2 hr1 hB.bk.1 ⟨fun q => hB.kr (by rw [q]; rfl), fun i h hi => ?_, hB.two⟩ (fun t h hh => (hB.lists t h hh).1) (fun t h hh => ?_)
  · obtain ⟨a, b, c⟩ := rowsOf_at H i h hi
    have ha := hc _ _ a
    have hb := hc _ _ b
    have hd := hc _ _ c
    rw [addr_add] at ha hb hd
    exact ⟨by first | exact ha | simpa [Nat.mul_comm] using ha, by first | exact hb | simpa [Nat.mul_comm] using hb, by first | exact hd | simpa [Nat.mul_comm] using hd⟩
  · obtain ⟨a, b⟩ := hB.far i h hi
    refine ⟨a, fun q => ?_⟩
    rcases b with z | z
    · rw [z] at q; cases q
    · exact z (by rw [q]; rfl)
  · obtain ⟨-, a, b⟩ := hB.lists t h hh
    have := (List.getElem?_eq_some_iff.1 hh).1
    exact ⟨by omega, by omega, by omega⟩
end Go.Proofs.YtnpblpbcchminaaGreatDoor
/- cartularylaw23.KeysBytes. Condition: the table reads as listed. -/
namespace Go.Proofs.YtnpblpbcchminaaGreatDoor
open Go.ChangeShapes Go.WideShapes Go.ChangeAt Go.RowKit
set_option linter.unusedVariables false

theorem Coll.to_below' {base K : Nat} {w w' : World} {v v' : Value} (h : Coll K w w' v v') (hB : base ≤ K) (hv : ∀ k, v.ownBlock = some k → base ≤ k) (hb : base ≤ w.heap.size) : Below base w w' :=
  ⟨h.os, h.tape, h.output, h.size, fun k hk => h.same k (by omega) (by omega) (fun q => by have := hv k q.symm; omega)⟩
theorem BAt.lower {base base' K : Nat} {w : World} {rv : Value} (h : BAt base K [] rv w) (hb : base' ≤ base) : BAt base' K [] rv w :=
  ⟨h.book, own_mono h.rows hb, h.kr, ⟨Nat.le_trans hb h.bk.1, h.bk.2⟩, (fun t x hh => by rw [List.getElem?_nil] at hh; cases hh), (fun t x hh => by rw [List.getElem?_nil] at hh; cases hh), (fun i j x g hh => by rw [List.getElem?_nil] at hh; cases hh)⟩
/-- what a book's step leaves of other lists and rows -/
def Keeps (base K : Nat) (w w' : World) (rv rv' : Value) : Prop := w.heap.size ≤ w'.heap.size ∧ (∀ (e size n : Nat) (v : Value) (ys : List Value), w.ownsRow base e size v n ys → v.ownBlock ≠ some K → (v.ownBlock = none ∨ v.ownBlock ≠ rv.ownBlock) → w'.ownsRow base e size v n ys ∧ (v.ownBlock = none ∨ v.ownBlock ≠ rv'.ownBlock)) ∧
  ∀ k, k < w.heap.size → k ≠ K → some k ≠ rv.ownBlock → w'.heap[k]? = w.heap[k]? ∧ some k ≠ rv'.ownBlock
theorem Keeps.trans {base K : Nat} {u v w : World} {a b c : Value} (h : Keeps base K u v a b) (g : Keeps base K v w b c) : Keeps base K u w a c :=
  ⟨Nat.le_trans h.1 g.1, fun e size n x ys ho hK hr => by
    obtain ⟨a1, a2⟩ := h.2.1 e size n x ys ho hK hr
    exact g.2.1 e size n x ys a1 hK a2, fun k hk hK hr => by
    obtain ⟨a1, a2⟩ := h.2.2 k hk hK hr
    obtain ⟨b1, b2⟩ := g.2.2 k (Nat.lt_of_lt_of_le hk h.1) hK a2
    exact ⟨b1.trans a1, b2⟩⟩
theorem keeps_below {base K : Nat} {u v : World} {a : Value} (h : Below u.heap.size u v) : Keeps base K u v a a :=
  ⟨h.size, fun e size n x ys ho hK hr => ⟨own_below ho h (Nat.le_refl _), hr⟩, fun k hk hK hr => ⟨h.block k hk, hr⟩⟩
theorem coll_keeps {base K : Nat} {w w' : World} {rv rv' : Value} (c : Coll K w w' rv rv') : Keeps base K w w' rv rv' := ⟨c.size, fun e size n v ys ho hK hr => by
  refine ⟨own_collHash ho c (fun q => hK q.symm) hr, ?_⟩
  by_cases hz : v.ownBlock = none
  · exact .inl hz
  · refine .inr fun q => ?_
    obtain ⟨k, hk⟩ := Option.ne_none_iff_exists'.1 hz
    rcases c.blk k (by rw [← q]; exact hk) with z | z
    · rcases hr with y | y
      · exact hz y
      · exact y (by rw [hk, z])
    · have := (ho.lt k hk).2; omega, fun k hk hK hr => ⟨c.same k hk hK hr, fun q => by
    rcases c.blk k q.symm with z | z
    · exact hr z.symm
    · omega⟩⟩
theorem own_apart {b e s n n' : Nat} {v v' : Value} {xs xs' : List Value} {w w' : World} (h : w.ownsRow b e s v n xs) (h' : w'.ownsRow w.heap.size e s v' n' xs') : v.ownBlock = none ∨ v.ownBlock ≠ v'.ownBlock := by
  by_cases hz : v.ownBlock = none
  · exact .inl hz
  · refine .inr fun q => ?_
    obtain ⟨k, hk⟩ := Option.ne_none_iff_exists'.1 hz
    have h1 := (h.lt k hk).2
    have h2 := (h'.lt k (by rw [← q]; exact hk)).1
    omega
theorem own_ne_at {b e s n k : Nat} {v : Value} {xs : List Value} {w : World} (h : w.ownsRow b e s v n xs) (hk : w.heap.size ≤ k) : v.ownBlock ≠ some k := fun q => by
  have := (h.lt k q).2; omega
theorem none_or (v : Value) : v.ownBlock = none ∨ v.ownBlock ≠ (Value.slice none 0 0).ownBlock := by
  by_cases hz : v.ownBlock = none
  · exact .inl hz
  · exact .inr hz
theorem heap_two {w : World} {o p : Obj} {k : Nat} (hk : k = w.heap.size) : ((w.alloc o).alloc p).heap[k]? = some o := by
  subst hk
  exact (((Below.refl (w.heap.size + 1) (w.alloc o)).alloc (by simp) p).block _ (by omega)).trans (heap_at w o _ rfl)
theorem heap_two' {w : World} {o p : Obj} {k : Nat} (hk : k = w.heap.size + 1) : ((w.alloc o).alloc p).heap[k]? = some p := heap_at _ _ _ (by rw [hk]; simp)
set_option maxRecDepth 100000 in
set_option maxHeartbeats 8000000 in
theorem book_signed (base K : Nat) (H : List Hold) (rv : Value) (X : Int) (m n : Nat) (A A2 : Option Addr) (c c2 : Nat) (ys1 ys2 : List Value) (w : World) (hB : BAt base K H rv w) (hl : H.length ≤ 999000) (o1 : w.ownsRow base 23 32 (.slice A m c) m ys1) (o2 : w.ownsRow base 23 32 (.slice A2 n c2) n ys2) (hm : m ≤ 1000000) (hn : n ≤ 1000000)
    (k1 : (Value.slice A m c).ownBlock ≠ some K) (k2 : (Value.slice A2 n c2).ownBlock ≠ some K) (r1 : (Value.slice A m c).ownBlock = none ∨ (Value.slice A m c).ownBlock ≠ rv.ownBlock) (r2 : (Value.slice A2 n c2).ownBlock = none ∨ (Value.slice A2 n c2).ownBlock ≠ rv.ownBlock)
    (h12 : (Value.slice A m c).ownBlock = none ∨ (Value.slice A m c).ownBlock ≠ (Value.slice A2 n c2).ownBlock) (f1 : ∀ (t : Nat) (h : Hold), H[t]? = some h → h.v.ownBlock = none ∨ h.v.ownBlock ≠ (Value.slice A m c).ownBlock) (f2 : ∀ (t : Nat) (h : Hold), H[t]? = some h → h.v.ownBlock = none ∨ h.v.ownBlock ≠ (Value.slice A2 n c2).ownBlock) :
    Calls Tryz.prog 21 #[.pointer (some ⟨K, 0, none⟩), .agg #[.int .i64 X, .slice A m c, .slice A2 n c2]] w fun ev w' => ev = .returned (.tuple #[]) ∧ ∃ rv', BAt base K ((H ++ [⟨.slice A m c, m, (H.length : Int) + 1⟩]) ++ [⟨.slice A2 n c2, n, ((H ++ [(⟨.slice A m c, m, (H.length : Int) + 1⟩ : Hold)]).length : Int) + 1⟩]) rv' w' ∧ Keeps base K w w' rv rv' ∧ Below base w w' := by
  obtain ⟨wv, hwv⟩ : ∃ y9 : World, (w.alloc (.cells #[.int .i64 X, .slice A m c, .slice A2 n c2] 26)) = y9 := ⟨_, rfl⟩
  have HBv : Hid (Below w.heap.size w wv) := Lib.hid (by rw [← hwv]; exact ((Below.refl _ _).alloc (by simp <;> omega) _))
  have HSV : Hid (wv.heap.size = w.heap.size + 1) := Lib.hid (by rw [← hwv]; simp)
  have RS : Hid (wv.heap[w.heap.size]? = some (.cells #[.int .i64 X, .slice A m c, .slice A2 n c2] 26 (0, 0))) := Lib.hid (by rw [← hwv]; exact heap_at _ _ _ (by simp <;> omega))
  have HWV := Lib.hid hwv
  have hsv := HSV.out
  have hbase : base ≤ w.heap.size := Nat.le_of_lt (Nat.lt_of_le_of_lt hB.bk.1 hB.bk.2)
  have z1 : wv.cell? ⟨w.heap.size, 1, none⟩ = some (.slice A m c) := (cell_of_row wv _ 1 _ 26 (0, 0) RS.out).trans rfl
  have H1 := Lib.hid (bat_keep base K H rv A m c ys1 wv (hB.below HBv.out) (by omega) (own_below o1 HBv.out (Nat.le_refl _)) hm k1 r1 f1)
  have HH := Lib.hid (And.intro hB (And.intro o1 (And.intro o2 (And.intro k2 (And.intro r2 (And.intro h12 f2))))))
  have HN := Lib.hid (And.intro hn hl)
  have HK1 := Lib.hid k1
  have HR1 := Lib.hid r1
  have hKw := hB.bk
  have HBB := Lib.hid hbase
  clear hB o1 o2 k1 k2 r1 r2 h12 f1 f2 hwv hm hn hl
  go_enter Tryz.func21, Tryz.ntmps21
  go_upto_region 1 with fail
  rw [HWV.out]
  go_wp2_with fail
  refine H1.out.mono ?_
  rintro ev w1 ⟨rfl, rv1, hB1, c1⟩
  have K1 := Lib.hid (coll_keeps (base := base) c1)
  have CC1 := Lib.hid c1
  have R1 : Hid (w1.heap[w.heap.size]? = some (.cells #[.int .i64 X, .slice A m c, .slice A2 n c2] 26 (0, 0))) := Lib.hid ((c1.same _ (by omega) (by omega) (fun q => by
    have := (HH.out.1.rows.lt _ q.symm).2; omega)).trans RS.out)
  have z2 : w1.cell? ⟨w.heap.size, 2, none⟩ = some (.slice A2 n c2) := (cell_of_row w1 _ 2 _ 26 (0, 0) R1.out).trans rfl
  obtain ⟨o2', r2'⟩ := K1.out.2.1 23 32 n (.slice A2 n c2) ys2 (own_below HH.out.2.2.1 HBv.out (Nat.le_refl _)) HH.out.2.2.2.1 HH.out.2.2.2.2.1
  have H2 := Lib.hid (bat_keep base K _ rv1 A2 n c2 ys2 w1 hB1 (by rw [List.length_append]; have := HN.out.2; simp; omega) o2' HN.out.1 HH.out.2.2.2.1 r2' (fun t h ht => by
    by_cases hlt : t < H.length
    · rw [List.getElem?_append_left hlt] at ht
      exact HH.out.2.2.2.2.2.2 t h ht
    · rw [List.getElem?_append_right (by omega)] at ht
      have h0 : t - H.length = 0 := by have := (List.getElem?_eq_some_iff.1 ht).1; simp at this; omega
      rw [h0] at ht
      simp at ht; subst ht
      exact HH.out.2.2.2.2.2.1))
  clear hB1 c1 o2' r2' z1
  go_wp2_with fail
  refine H2.out.mono ?_
  rintro ev w2 ⟨rfl, rv2, hB2, c2'⟩
  have K2 := Lib.hid (coll_keeps (base := base) c2')
  have HB2 := Lib.hid hB2
  have CC2 := Lib.hid c2'
  clear hB2 c2'
  go_wp2_with fail
  refine bodyPost_end (results_none rfl _ _ _) rfl ⟨rfl, rv2, HB2.out, (keeps_below HBv.out).trans (K1.out.trans K2.out), ?_⟩
  · exact (HBv.out.mono HBB.out).trans ((CC1.out.to_below' hKw.1 (fun k hk => (HH.out.1.rows.lt k hk).1) (Nat.le_trans HBB.out HBv.out.size)).trans (CC2.out.to_below' hKw.1 (fun k hk => by
      rcases CC1.out.blk k hk with z | z
      · exact (HH.out.1.rows.lt k z).1
      · have := HBB.out; have := HBv.out.size; omega) (Nat.le_trans HBB.out (Nat.le_trans HBv.out.size CC1.out.size))))

end Go.Proofs.YtnpblpbcchminaaGreatDoor
/- keys.Encode where the signature is none; SameSigned of two alike. Condition: the table reads as listed. -/
namespace Go.Proofs.YtnpblpbcchminaaGreatDoor
open Go.ChangeShapes Go.WideShapes Go.ChangeAt Go.RowKit
set_option linter.unusedVariables false
set_option maxRecDepth 100000 in
set_option maxHeartbeats 8000000 in
theorem enc_bad (a : Nat → Addr) (B : Nat) (x : Int) (m n : Nat) (A A2 : Option Addr) (c c2 : Nat) (w : World) (hE : Env B a w) (hx : ¬ (0 ≤ x ∧ x < 64 ∧ m = 67 ∧ n ≤ 6)) :
    Calls Tryz.prog 26 #[.agg #[.int .i64 x, .slice A m c, .slice A2 n c2]] w fun ev w' => ev = .returned (.tuple #[.string ⟨#[]⟩, errV a 2]) ∧ Below w.heap.size w w' := by
  obtain ⟨sv, hsv9⟩ : ∃ y : Array Value, #[.int .i64 x, .slice A m c, .slice A2 n c2] = y := ⟨_, rfl⟩
  have Zsv : Hid (sv.size = 3) := Lib.hid (by rw [← hsv9]; rfl)
  have Isv : Hid ((Tryz.prog.info? 26).map (·.size) = some sv.size) := Lib.hid (by rw [Zsv.out]; kernel_rfl)
  obtain ⟨wv, hwv⟩ : ∃ y9 : World, (w.alloc (.cells sv 26)) = y9 := ⟨_, rfl⟩
  have HBv : Hid (Below w.heap.size w wv) := Lib.hid (by rw [← hwv]; exact ((Below.refl _ _).alloc (by simp <;> omega) _))
  have HSV : Hid (wv.heap.size = w.heap.size + 1) := Lib.hid (by rw [← hwv]; simp)
  have RS : Hid (wv.heap[w.heap.size]? = some (.cells sv 26 (0, 0))) := Lib.hid (by rw [← hwv]; exact heap_at _ _ _ (by simp <;> omega))
  have HWV := Lib.hid hwv
  have hsvv := HSV.out
  have HMAY : Hid (∀ w', Calls Tryz.prog 33 #[.agg sv] w' fun ev w2 => ev = .returned (.bool false) ∧ Below w'.heap.size w' w2) := Lib.hid (fun w' => by
    have := may_any x m n A A2 c c2 w'
    rw [hsv9, show decide (0 ≤ x ∧ x < 64 ∧ m = 67 ∧ n ≤ 6) = false from decide_eq_false hx] at this
    exact this)
  have HE := Lib.hid (hE.step HBv.out)
  rw [hsv9]
  clear hwv hsv9 hE hx
  go_enter Tryz.func26, Tryz.ntmps26
  go_upto_region 1 with fail
  rw [HWV.out]
  go_wp2_with (refine wpList_load_row rfl 26 _ rfl w.heap.size rfl 26 sv (0, 0) _ RS.out Tryz.underlying26 rfl Isv.out ?_)
  refine (HMAY.out wv).mono ?_
  rintro ev w1 ⟨rfl, b1⟩
  have BF := Lib.hid (HBv.out.trans (b1.mono HBv.out.size))
  have KEI : Hid (∀ w', But (fun _ => False) w1 w' → w'.cell? ⟨0, 0, none⟩ = some (errV a 2)) := Lib.hid (fun w' hw => hw.cell ((HE.out.step b1).laid.e2) (fun e => e))
  unfold errV at KEI
  clear b1
  go_upto_region 2 with fail
  refine wp_region_held_drew (S := But (fun _ => False) w1) (by kernel_rfl) (But.refl _ _).drew (fun hHeld => ?_)
  refine tk (i := 0) (v := ?v1) rfl ?y1 ?r1
  case y1 => (intro w hSw; (try dsimp only at hSw); have q9 := KEI.out w hSw; go_simp; (try with_reducible rfl))
  try simp only [pu]
  refine tk (i := 1) (v := ?v2) rfl ?y2 ?r2
  case y2 => (intro w hSw; (try dsimp only at hSw); go_simp; (try with_reducible rfl))
  try simp only [pu]
  refine tk (i := 2) (v := ?v3) rfl ?y3 ?r3
  case y3 => (intro w hSw; (try dsimp only at hSw); go_simp; (try with_reducible rfl))
  try simp only [pu]
  refine wpAnyH_done (by kernel_rfl) ?_ _
  have KE := Lib.hid ((But.refl (fun _ => False) w1).drew)
  go_wp2
  refine bodyPost_ret (v := .tuple #[.string ⟨#[]⟩, errV a 2]) (by simp [results, Tryz.results26, go_sem, errV]) rfl ⟨rfl, BF.out.trans ((But.to_below KE.out (Nat.le_refl _) (fun _ _ q => q)).mono BF.out.size)⟩
set_option maxRecDepth 100000 in
set_option maxHeartbeats 8000000 in
theorem same_yes (x : Int) (m n : Nat) (A A2 B1 B2 : Option Addr) (c c2 d1 d2 : Nat) (C P : List (List UInt8)) (w : World) (hm : m ≤ 1048576) (hn : n ≤ 1048576) (h1 : HIn w A m c C) (h2 : HIn w A2 n c2 P) (g1 : HIn w B1 m d1 C) (g2 : HIn w B2 n d2 P) :
    Calls Tryz.prog 22 #[.agg #[.int .i64 x, .slice A m c, .slice A2 n c2], .agg #[.int .i64 x, .slice B1 m d1, .slice B2 n d2]] w fun ev w' => ev = .returned (.bool true) ∧ Below w.heap.size w w' := by
  obtain ⟨wv, hwv⟩ : ∃ y9 : World, ((w.alloc (.cells #[.int .i64 x, .slice A m c, .slice A2 n c2] 26)).alloc (.cells #[.int .i64 x, .slice B1 m d1, .slice B2 n d2] 26)) = y9 := ⟨_, rfl⟩
  have HBv : Hid (Below w.heap.size w wv) := Lib.hid (by rw [← hwv]; exact (((Below.refl _ _).alloc (by simp <;> omega) _).alloc (by simp <;> omega) _))
  have HSV : Hid (wv.heap.size = w.heap.size + 2) := Lib.hid (by rw [← hwv]; simp)
  have RA : Hid (wv.heap[w.heap.size]? = some (.cells #[.int .i64 x, .slice A m c, .slice A2 n c2] 26 (0, 0))) := Lib.hid (by rw [← hwv]; exact (((Below.refl (w.alloc (.cells #[.int .i64 x, .slice A m c, .slice A2 n c2] 26)).heap.size (w.alloc (.cells #[.int .i64 x, .slice A m c, .slice A2 n c2] 26))).alloc (Nat.le_refl _) _).block w.heap.size (by simp <;> omega)).trans (heap_at _ _ _ (by simp <;> omega)))
  have RB : Hid (wv.heap[(w.heap.size + 1)]? = some (.cells #[.int .i64 x, .slice B1 m d1, .slice B2 n d2] 26 (0, 0))) := Lib.hid (by rw [← hwv]; exact heap_at _ _ _ (by simp <;> omega))
  have HWV := Lib.hid hwv
  have hsv := HSV.out
  have HSH1 : Hid (∀ w', Below w.heap.size w w' → Calls Tryz.prog 54 #[.slice A m c, .slice B1 m d1] w' fun ev w2 => ev = .returned (.bool true) ∧ Below w'.heap.size w' w2) := Lib.hid (fun w' hb => by
    have := same_hashes C C A B1 m m c d1 w' (by omega) (h1.below hb) (g1.below hb)
    rw [show decide (C = C) = true by simp] at this; exact this)
  have HSH2 : Hid (∀ w', Below w.heap.size w w' → Calls Tryz.prog 54 #[.slice A2 n c2, .slice B2 n d2] w' fun ev w2 => ev = .returned (.bool true) ∧ Below w'.heap.size w' w2) := Lib.hid (fun w' hb => by
    have := same_hashes P P A2 B2 n n c2 d2 w' (by omega) (h2.below hb) (g2.below hb)
    rw [show decide (P = P) = true by simp] at this; exact this)
  have a0 : wv.cell? ⟨w.heap.size, 0, none⟩ = some (.int .i64 x) := (cell_of_row wv _ 0 _ 26 (0, 0) RA.out).trans rfl
  have a1 : wv.cell? ⟨w.heap.size, 1, none⟩ = some (.slice A m c) := (cell_of_row wv _ 1 _ 26 (0, 0) RA.out).trans rfl
  have b0 : wv.cell? ⟨w.heap.size + 1, 0, none⟩ = some (.int .i64 x) := (cell_of_row wv _ 0 _ 26 (0, 0) RB.out).trans rfl
  have b1 : wv.cell? ⟨w.heap.size + 1, 1, none⟩ = some (.slice B1 m d1) := (cell_of_row wv _ 1 _ 26 (0, 0) RB.out).trans rfl
  have hxx : (x == x) = true := by simp
  clear h1 h2 g1 g2 hwv
  go_enter Tryz.func22, Tryz.ntmps22
  go_upto_region 1 with fail
  rw [HWV.out]
  go_wp2_with fail
  refine (HSH1.out wv HBv.out).mono ?_
  rintro ev w1 ⟨rfl, b⟩
  have B1' := Lib.hid (HBv.out.trans (b.mono HBv.out.size))
  have c0 : w1.cell? ⟨w.heap.size, 2, none⟩ = some (.slice A2 n c2) := (cell_of_row w1 _ 2 _ 26 (0, 0) ((b.block _ (by omega)).trans RA.out)).trans rfl
  have c1 : w1.cell? ⟨w.heap.size + 1, 2, none⟩ = some (.slice B2 n d2) := (cell_of_row w1 _ 2 _ 26 (0, 0) ((b.block _ (by omega)).trans RB.out)).trans rfl
  clear b
  go_wp2_with fail
  refine (HSH2.out w1 B1'.out).mono ?_
  rintro ev w2 ⟨rfl, b⟩
  have B2' := Lib.hid (B1'.out.trans (b.mono B1'.out.size))
  clear b
  go_wp2_with fail
  go_ret
  exact ⟨rfl, B2'.out⟩
end Go.Proofs.YtnpblpbcchminaaGreatDoor
/- cartularylaw23.KeysBytes. Condition: the table reads as listed. -/
namespace Go.Proofs.YtnpblpbcchminaaGreatDoor
open Go.ChangeShapes Go.WideShapes Go.ChangeAt Go.RowKit
set_option linter.unusedVariables false

instance (S : ByteArray) (d : DecS) : Decidable (d.ok S) := by unfold DecS.ok; infer_instance
/-- what Decode answers, as numbers and lists -/
def dX (S : ByteArray) : Int := if (decS S).ok S then ((decS S).i : Int) else 0
def dM (S : ByteArray) : Nat := if (decS S).ok S then 67 else 0
def dN (S : ByteArray) : Nat := if (decS S).ok S then (decS S).n else 0
def dC (S : ByteArray) : List (List UInt8) := if (decS S).ok S then (List.range 67).map (hsS S (decS S).o1) else []
def dP (S : ByteArray) : List (List UInt8) := if (decS S).ok S then (List.range (decS S).n).map (hsS S (decS S).o3) else []
def dK (S : ByteArray) : Nat := if (decS S).ok S then 0 else 3
theorem dN_le (S : ByteArray) : dN S ≤ 6 := by unfold dN; split <;> rename_i h; exact h.2.1; omega
theorem dM_le (S : ByteArray) : dM S ≤ 67 := by unfold dM; split <;> omega
theorem dec_uni (a : Nat → Addr) (B : Nat) (S : ByteArray) (w : World) (hE : Env B a w) (hS : S.size ≤ 9223372036854775807) :
    Calls Tryz.prog 28 #[.string S] w fun ev w' => (∃ A1 c1 A2 c2 ys1 ys2, ev = .returned (.tuple #[.agg #[.int .i64 (dX S), .slice A1 (dM S) c1, .slice A2 (dN S) c2], errK a (dK S)]) ∧ HIn w' A1 (dM S) c1 (dC S) ∧ HIn w' A2 (dN S) c2 (dP S) ∧
      w'.ownsRow w.heap.size 23 32 (.slice A1 (dM S) c1) (dM S) ys1 ∧ w'.ownsRow w.heap.size 23 32 (.slice A2 (dN S) c2) (dN S) ys2 ∧ ((Value.slice A1 (dM S) c1).ownBlock = none ∨ (Value.slice A1 (dM S) c1).ownBlock ≠ (Value.slice A2 (dN S) c2).ownBlock)) ∧ Below w.heap.size w w' := by
  refine (dec_any a B S w hE hS).mono ?_
  rintro ev w' ⟨h | h, hb⟩
  · obtain ⟨hok, G, cs, v, hG, rfl, hF, hg, hown, hne⟩ := h
    refine ⟨?_, hb⟩
    unfold dX dM dN dC dP dK
    simp only [if_pos hok]
    have hC := hF.hin (fun i => hsS_length _ _ i) hg (by omega)
    obtain ⟨A9, c9, hA, hI⟩ := hin_own (n := (decS S).n) (l := (List.range (decS S).n).map (hsS S (decS S).o3)) (fun z hz => by
      obtain ⟨k, -, rfl⟩ := List.mem_map.1 hz
      exact hsS_length _ _ _) (by simp) hown
    subst hA
    refine ⟨some ⟨G, 0, none⟩, 67, A9, c9, cs, _, by rw [show errK a 0 = .nilIface from rfl], hC, hI, ⟨hF.1, .inr ⟨G, 67, cs.toArray, rfl, hG, hg, Nat.le_refl _, by unfold maxLen; omega, by simp [hF.1], List.take_of_length_le (Nat.le_of_eq hF.1)⟩⟩, hown, .inr fun q => hne (by rw [← q]; rfl)⟩
  · obtain ⟨hno, rfl⟩ := h
    refine ⟨?_, hb⟩
    unfold dX dM dN dC dP dK
    simp only [if_neg hno]
    exact ⟨none, 0, none, 0, [], [], rfl, hin_none _, hin_none _, World.ownsRow_nil _ _ _ _, World.ownsRow_nil _ _ _ _, .inl rfl⟩
theorem rdec_uni (S : ByteArray) (w : World) (hS : S.size ≤ 9223372036854775807) :
    Calls Tryz.prog 29 #[.string S] w fun ev w' => (∃ A1 c1 A2 c2, ev = .returned (.tuple #[.agg #[.int .i64 (dX S), .slice A1 (dM S) c1, .slice A2 (dN S) c2], faultV (dK S)]) ∧ HIn w' A1 (dM S) c1 (dC S) ∧ HIn w' A2 (dN S) c2 (dP S)) ∧ Below w.heap.size w w' := by
  refine (rdec_any S w hS).mono ?_
  rintro ev w' ⟨h | h, hb⟩
  · obtain ⟨hok, A1, c1, A2, c2, rfl, h1, h2⟩ := h
    refine ⟨?_, hb⟩
    unfold dX dM dN dC dP dK
    simp only [if_pos hok]
    exact ⟨A1, c1, A2, c2, rfl, h1, h2⟩
  · obtain ⟨hno, rfl⟩ := h
    refine ⟨?_, hb⟩
    unfold dX dM dN dC dP dK
    simp only [if_neg hno]
    exact ⟨none, 0, none, 0, rfl, hin_none _, hin_none _⟩
theorem enc_both (a : Nat → Addr) (B : Nat) (x : Int) (m n : Nat) (A A2 B1 B2 : Option Addr) (c c2 d1 d2 : Nat) (C P : List (List UInt8)) (w : World) (hE : Env B a w) (h1 : HIn w A m c C) (h2 : HIn w A2 n c2 P) (g1 : HIn w B1 m d1 C) (g2 : HIn w B2 n d2 P) :
    ∃ (p0 : ByteArray) (k : Nat), k ≤ 16 ∧ (∀ w', Below w.heap.size w w' → Calls Tryz.prog 26 #[.agg #[.int .i64 x, .slice B1 m d1, .slice B2 n d2]] w' fun ev w2 => ev = .returned (.tuple #[.string p0, errK a k]) ∧ Below w'.heap.size w' w2) ∧
      (∀ w', Below w.heap.size w w' → Calls Tryz.prog 27 #[.agg #[.int .i64 x, .slice A m c, .slice A2 n c2]] w' fun ev w2 => ev = .returned (.tuple #[.string p0, faultV k]) ∧ Below w'.heap.size w' w2) := by
  by_cases hmay : 0 ≤ x ∧ x < 64 ∧ m = 67 ∧ n ≤ 6
  · obtain ⟨hx0, hx64, rfl, hn6⟩ := hmay
    obtain ⟨X, rfl⟩ := Int.eq_ofNat_of_zero_le hx0
    refine ⟨⟨(encB X C n P).toArray⟩, 0, by omega, fun w' hb => ?_, fun w' hb => ?_⟩
    · rw [show errK a 0 = .nilIface from rfl]
      exact enc_ok X n B1 B2 d1 d2 C P w' (by omega) hn6 (g1.below hb) (g2.below hb)
    · exact renc_ok X n A A2 c c2 C P w' (by omega) hn6 (h1.below hb) (h2.below hb)
  · refine ⟨⟨#[]⟩, 2, by omega, fun w' hb => ?_, fun w' hb => ?_⟩
    · rw [show errK a 2 = errV a 2 from rfl]
      exact enc_bad a B x m n B1 B2 d1 d2 w' (hE.step hb) hmay
    · exact renc_bad x m n A A2 c c2 w' hmay

end Go.Proofs.YtnpblpbcchminaaGreatDoor
