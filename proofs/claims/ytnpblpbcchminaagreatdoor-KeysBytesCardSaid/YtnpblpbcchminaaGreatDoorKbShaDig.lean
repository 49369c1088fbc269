import Derived.Deep.RegionLaw
import Derived.Maps.AppendAt
import Derived.Test.YtnpblpbcchminaaGreatDoorKbShaPlain
/- append onto an owned list: what the new slice is. No program in sight. -/
namespace Go.Proofs.YtnpblpbcchminaaGreatDoor
open Go.ChangeShapes Go.WideShapes Go.ChangeAt Go.RowKit
set_option linter.unusedVariables false
theorem own_shape {w : World} {base : Nat} {e : TypeId} {size : Nat} {v : Value} {n : Nat} {xs : List Value} (h : w.ownsRow base e size v n xs) : ∃ A cap, v = .slice A n cap ∧ n ≤ cap := by
  rcases h.2 with ⟨h1, h2⟩ | ⟨g, cap, cur, h1, _, _, h3, _⟩
  · subst h2; exact ⟨none, 0, h1, Nat.le_refl _⟩
  · exact ⟨_, cap, h1, h3⟩
section
variable {P : Program} {w : World}
theorem run_append_shape (base : Nat) (t ty e : TypeId) (i : TypeInfo) (z : Value) (size bytes : Nat) (ht : P.underlying t = some (.slice e)) (hi : P.info? e = some i) (hz : i.zero = some z)
    (hsize : i.size = size) (hby : i.bytes = bytes) (hzs : z.cells.size = size) (hsz : 0 < size)
    (v : Value) (n : Nat) (xs : List Value) (hown : w.ownsRow base e size v n xs)
    (a : Addr) (m c : Nat) (news : List Value) (hl : news.length = m * size) (hnews : ∀ j u, news[j]? = some u → w.cell? (a.add j) = some u) (h1 : ∀ u ∈ news, u.oneCell' = true)
    (h63 : n + m ≤ maxLen) (hbytes : (n + m) * bytes ≤ 140737488355328) (hbase : base ≤ w.heap.size) :
    ∃ A cap w', (Builtin.append_ #[t, t] ty #[v, .slice (some a) m c]).run P w = .ok (.slice A (n + m) cap) w' ∧ w'.ownsRow base e size (.slice A (n + m) cap) (n + m) (xs ++ news) ∧ w.grownBy w' v.ownBlock ∧
      ((Value.slice A (n + m) cap).ownBlock = v.ownBlock ∨ (Value.slice A (n + m) cap).ownBlock = some w.heap.size) := by
  obtain ⟨v', w', hr, h2, h3, _, h5⟩ := run_append_own_at (P := P) w base t ty e i z size bytes ht hi hz hsize hby hzs hsz v n xs hown a m c news hl hnews h1 h63 hbytes hbase
  obtain ⟨A, cap, rfl, _⟩ := own_shape h2
  exact ⟨A, cap, w', hr, h2, h3, h5⟩
theorem step_append_shape {ops : Array Oper} {o : Oper} {a : Act} {K : Act → World → Prop} {Q : Exit → Act → World → Prop} {E : Prop}
    (hg : o.guard = none) (s x : Operand) (t : TypeId) (ho : o.op = Op.call { callee := Callee.builtin Builtin.append, args := #[s, x], argTypes := #[t, t] })
    (base : Nat) (e : TypeId) (i : TypeInfo) (z : Value) (size bytes : Nat) (ht : P.underlying t = some (.slice e)) (hi : P.info? e = some i) (hz : i.zero = some z)
    (hsize : i.size = size) (hby : i.bytes = bytes) (hzs : z.cells.size = size) (hsz : 0 < size)
    (v : Value) (n : Nat) (xs : List Value) (hs : a.eval s = v) (hown : w.ownsRow base e size v n xs)
    (ad : Addr) (m c : Nat) (news : List Value) (hx : a.eval x = .slice (some ad) m c) (hl : news.length = m * size) (hnews : ∀ j u, news[j]? = some u → w.cell? (ad.add j) = some u) (h1 : ∀ u ∈ news, u.oneCell' = true)
    (h63 : n + m ≤ maxLen) (hbytes : (n + m) * bytes ≤ 140737488355328) (hbase : base ≤ w.heap.size)
    (hK : ∀ A cap w', w'.ownsRow base e size (.slice A (n + m) cap) (n + m) (xs ++ news) → w.grownBy w' v.ownBlock → ((Value.slice A (n + m) cap).ownBlock = v.ownBlock ∨ (Value.slice A (n + m) cap).ownBlock = some w.heap.size) → K (a.put o.dst (.slice A (n + m) cap)) w') :
    if Region.wanted o (yielded ops a.tmps) = true then Oper.wp P o a w K Q else E := by
  have hw : Region.wanted o (yielded ops a.tmps) = true := by simp [Region.wanted, hg]
  rw [if_pos hw]
  obtain ⟨A, cap, w', hr, h2, h3, h4⟩ := run_append_shape (P := P) base t o.type e i z size bytes ht hi hz hsize hby hzs hsz v n xs hown ad m c news hl hnews h1 h63 hbytes hbase
  unfold Oper.wp execOp
  simp only [ho, resolve, invoke, builtin, Sem.run_bind, Sem.run_pure, Result.andThen_ok, List.map_toArray, List.map_cons, List.map_nil, hs, hx, hr]
  exact hK A cap w' h2 h3 h4
theorem wpList_append_shape {ops : Array Oper} {rest : List Oper} {o : Oper} {a : Act} {Q : Exit → Act → World → Prop} (hg : o.guard = none) (s x : Operand) (t : TypeId)
    (ho : o.op = Op.call { callee := Callee.builtin Builtin.append, args := #[s, x], argTypes := #[t, t] })
    (base : Nat) (e : TypeId) (i : TypeInfo) (z : Value) (size bytes : Nat) (ht : P.underlying t = some (.slice e)) (hi : P.info? e = some i) (hz : i.zero = some z)
    (hsize : i.size = size) (hby : i.bytes = bytes) (hzs : z.cells.size = size) (hsz : 0 < size)
    (v : Value) (n : Nat) (xs : List Value) (hs : a.eval s = v) (hown : w.ownsRow base e size v n xs)
    (ad : Addr) (m c : Nat) (news : List Value) (hx : a.eval x = .slice (some ad) m c) (hl : news.length = m * size) (hnews : ∀ j u, news[j]? = some u → w.cell? (ad.add j) = some u) (h1 : ∀ u ∈ news, u.oneCell' = true)
    (h63 : n + m ≤ maxLen) (hbytes : (n + m) * bytes ≤ 140737488355328) (hbase : base ≤ w.heap.size)
    (h : ∀ A cap w', w'.ownsRow base e size (.slice A (n + m) cap) (n + m) (xs ++ news) → w.grownBy w' v.ownBlock → ((Value.slice A (n + m) cap).ownBlock = v.ownBlock ∨ (Value.slice A (n + m) cap).ownBlock = some w.heap.size) → wpList P ops Q rest (a.put o.dst (.slice A (n + m) cap)) w') : wpList P ops Q (o :: rest) a w := by
  refine wpList_plain hg fun K hK => ?_
  have := step_append_shape (P := P) (w := w) (ops := ops) (o := o) (a := a) (K := K) (Q := Q) (E := False) hg s x t ho base e i z size bytes ht hi hz hsize hby hzs hsz v n xs hs hown ad m c news hx hl hnews h1 h63 hbytes hbase (fun A cap w' h2 h3 h4 => hK _ _ (h A cap w' h2 h3 h4))
  rwa [if_pos (by simp [Region.wanted, hg])] at this
end
theorem range_add {w : World} {g o : Nat} {news : List Value} (h : w.rangeAt g o news) : ∀ j u, news[j]? = some u → w.cell? ((⟨g, o, none⟩ : Addr).add j) = some u := fun j u hu => by
  rw [Addr.add_mid]; exact h j u hu
end Go.Proofs.YtnpblpbcchminaaGreatDoor

/- sha.Digest in memory, and SHA-256 of a text in plain words. No program in sight. -/
namespace Go.Proofs.YtnpblpbcchminaaGreatDoor
open Go.ChangeShapes Go.WideShapes Go.ChangeAt Go.RowKit
set_option linter.unusedVariables false
/-- the beginning -/
def shaH0 : List Int := [1779033703, 3144134277, 1013904242, 2773480762, 1359893119, 2600822924, 528734635, 1541459225]
theorem blkL_length (H : List Int) (xs : List UInt8) : (blkL H xs).length = 8 := by simp [blkL]
/-- so many blocks -/
def blks : Nat → List Int → List UInt8 → List Int
  | 0, H, _ => H
  | k + 1, H, b => blks k (blkL H (b.take 64)) (b.drop 64)
theorem blks_length : ∀ (k : Nat) (H : List Int) (b : List UInt8), H.length = 8 → (blks k H b).length = 8
  | 0, _, _, h => h
  | k + 1, H, b, h => blks_length k _ _ (blkL_length _ _)
theorem blks_append : ∀ (k m : Nat) (H : List Int) (a b : List UInt8), a.length = 64 * k → blks (k + m) H (a ++ b) = blks m (blks k H a) b
  | 0, m, H, a, b, h => by
      obtain rfl : a = [] := List.eq_nil_of_length_eq_zero (by omega)
      rw [Nat.zero_add]; rfl
  | k + 1, m, H, a, b, h => by
      rw [show k + 1 + m = (k + m) + 1 by omega, blks, blks, List.take_append_of_le_length (by omega), List.drop_append_of_le_length (by omega)]
      exact blks_append k m _ _ _ (by rw [List.length_drop]; omega)
theorem blks_one (H : List Int) (b : List UInt8) (h : b.length = 64) : blks 1 H b = blkL H b := by
  rw [blks, blks, List.take_of_length_le (by omega)]
theorem blks_snoc (k : Nat) (H : List Int) (a b : List UInt8) (h : a.length = 64 * k) (hb : b.length = 64) : blks (k + 1) H (a ++ b) = blkL (blks k H a) b := by
  rw [blks_append k 1 H a b h, blks_one _ _ hb]
/-- the eight bytes of a length in bits -/
def lenB (n : Nat) : List UInt8 := (List.range 8).map fun i => UInt8.ofNat ((n * 8) / 2 ^ (56 - 8 * i) % 256)
/-- what comes behind a text of n bytes -/
def tailB (n : Nat) : List UInt8 := [128] ++ List.replicate ((119 - n % 64) % 64) 0 ++ lenB n
theorem tailB_length (n : Nat) : (n + (tailB n).length) % 64 = 0 := by simp [tailB, lenB]; omega
def wordBytes (w : Int) : List UInt8 := [UInt8.ofNat (w / 16777216 % 256).toNat, UInt8.ofNat (w / 65536 % 256).toNat, UInt8.ofNat (w / 256 % 256).toNat, UInt8.ofNat (w % 256).toNat]
/-- SHA-256 -/
def shaB (s : List UInt8) : List UInt8 := (blks ((s.length + (tailB s.length).length) / 64) shaH0 (s ++ tailB s.length)).flatMap wordBytes
theorem flat4 : ∀ (l : List Int), (l.flatMap wordBytes).length = 4 * l.length
  | [] => rfl
  | x :: l => by rw [List.flatMap_cons, List.length_append, flat4 l]; simp [wordBytes]; omega
theorem shaB_length (s : List UInt8) : (shaB s).length = 32 := by
  unfold shaB; rw [flat4, blks_length _ _ _ rfl]
/-- a digest: where it and its words lie, what is not a whole block, how many bytes, the words -/
structure Dg (D hb : Nat) (w : World) (rv : Value) (n : Int) (H : List Int) : Prop where
  blk : w.heap[D]? = some (.cells #[.pointer (some ⟨hb, 0, none⟩), rv, .int .u64 n] 298 (0, 0))
  words : IRow w hb .u32 272 H
  ne : D ≠ hb
theorem Dg.c0 {D hb : Nat} {w : World} {rv : Value} {n : Int} {H : List Int} (h : Dg D hb w rv n H) : w.cell? ⟨D, 0, none⟩ = some (.pointer (some ⟨hb, 0, none⟩)) := by rw [cell_of_row _ _ _ _ _ _ h.blk]; rfl
theorem Dg.c1 {D hb : Nat} {w : World} {rv : Value} {n : Int} {H : List Int} (h : Dg D hb w rv n H) : w.cell? ⟨D, 1, none⟩ = some rv := by rw [cell_of_row _ _ _ _ _ _ h.blk]; rfl
theorem Dg.c2 {D hb : Nat} {w : World} {rv : Value} {n : Int} {H : List Int} (h : Dg D hb w rv n H) : w.cell? ⟨D, 2, none⟩ = some (.int .u64 n) := by rw [cell_of_row _ _ _ _ _ _ h.blk]; rfl
theorem Dg.fr {D hb : Nat} {w : World} {rv : Value} {n : Int} {H : List Int} (h : Dg D hb w rv n H) (j : Nat) : w.frozen? ⟨D, j, none⟩ = false := frozen_of_row _ _ _ _ _ h.blk
theorem Dg.lt {D hb : Nat} {w : World} {rv : Value} {n : Int} {H : List Int} (h : Dg D hb w rv n H) : D < w.heap.size ∧ hb < w.heap.size := ⟨block_of_cell h.c0, h.words.lt⟩
theorem Dg.set1 {D hb : Nat} {w : World} {rv : Value} {n : Int} {H : List Int} (h : Dg D hb w rv n H) (rv' : Value) : Dg D hb (w.setCell ⟨D, 1, none⟩ rv') rv' n H :=
  ⟨by rw [heap_setCell_same _ _ _ _ _ _ h.blk]; rfl, h.words.setOther (a := ⟨D, 1, none⟩) h.ne.symm _, h.ne⟩
theorem Dg.set2 {D hb : Nat} {w : World} {rv : Value} {n : Int} {H : List Int} (h : Dg D hb w rv n H) (n' : Int) : Dg D hb (w.setCell ⟨D, 2, none⟩ (.int .u64 n')) rv n' H :=
  ⟨by rw [heap_setCell_same _ _ _ _ _ _ h.blk]; rfl, h.words.setOther (a := ⟨D, 2, none⟩) h.ne.symm _, h.ne⟩
theorem Dg.but {D hb : Nat} {w w' : World} {rv : Value} {n : Int} {H : List Int} {S : Nat → Prop} (h : Dg D hb w rv n H) (hb' : But S w w') (h1 : ¬ S D) (h2 : ¬ S hb) : Dg D hb w' rv n H :=
  ⟨(hb'.same D h.lt.1 h1).trans h.blk, h.words.block (hb'.same hb h.lt.2 h2), h.ne⟩
theorem Dg.block {D hb : Nat} {w w' : World} {rv : Value} {n : Int} {H H' : List Int} (h : Dg D hb w rv n H) (hw : IRow w' hb .u32 272 H') (hb' : But (· = hb) w w') : Dg D hb w' rv n H' :=
  ⟨(hb'.same D h.lt.1 h.ne).trans h.blk, hw, h.ne⟩
theorem Dg.below {D hb B : Nat} {w w' : World} {rv : Value} {n : Int} {H : List Int} (h : Dg D hb w rv n H) (hb' : Below B w w') (h1 : D < B) (h2 : hb < B) : Dg D hb w' rv n H :=
  ⟨(hb'.block D h1).trans h.blk, h.words.below hb' h2, h.ne⟩
/-- a digest of the bytes xs, which lies from base on -/
structure DigAt (base D hb : Nat) (w : World) (xs : List UInt8) (q : Nat) (done rest : List UInt8) (rv : Value) : Prop where
  all : xs = done ++ rest
  len : done.length = 64 * q
  short : rest.length < 64
  dg : Dg D hb w rv xs.length (blks q shaH0 done)
  own : w.ownsRow base 5 1 rv rest.length (bytesV rest)
  far : rv.ownBlock ≠ some D ∧ rv.ownBlock ≠ some hb
  baseD : base ≤ D
  baseH : base ≤ hb
end Go.Proofs.YtnpblpbcchminaaGreatDoor

