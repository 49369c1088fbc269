/- The walk of ShapeOld: whatever it is given it answers true. Condition: the package-level variables read as listed. -/
import Derived.Test.YtnddjadjmgfgnaaDoorLawAll
import Derived.Test.YtnddjadjmgfgnaaDoorOldPlain
namespace Go.Proofs.YtnddjadjmgfgnaaDoor
open Go.ChangeShapes Go.WideShapes Go.ChangeAt Go.RowKit
set_option linter.unusedVariables false
def firstOf (old : Int) (l : List (Int × Int)) : Int := l.foldl (fun m p => min m p.1) old
theorem firstOf_snoc (old : Int) (l : List (Int × Int)) (p : Int × Int) : firstOf old (l ++ [p]) = min (firstOf old l) p.1 := by simp [firstOf]
theorem firstOf_bd : ∀ (l : List (Int × Int)) (old : Int), 0 ≤ old → (∀ p ∈ l, 0 ≤ p.1) → 0 ≤ firstOf old l ∧ firstOf old l ≤ old
  | [], old, h, _ => ⟨h, Int.le_refl _⟩
  | q :: r, old, h, hp => by
      have h1 := hp q (by simp)
      have := firstOf_bd r (min old q.1) (by omega) (fun p hp' => hp p (by simp [hp']))
      have e : firstOf old (q :: r) = firstOf (min old q.1) r := rfl
      rw [e]; omega
theorem firstOf_mem : ∀ (l : List (Int × Int)) (old : Int), ∀ p ∈ l, firstOf old l ≤ p.1
  | [], _, p, h => by simp at h
  | q :: r, old, p, h => by
      have e : firstOf old (q :: r) = firstOf (min old q.1) r := rfl
      have mono : ∀ (r : List (Int × Int)) (o : Int), firstOf o r ≤ o := by
        intro r
        induction r with
        | nil => intro o; exact Int.le_refl _
        | cons z t ih => intro o; have := ih (min o z.1); have e : firstOf o (z :: t) = firstOf (min o z.1) t := rfl; rw [e]; omega
      rw [e]
      rcases List.mem_cons.1 h with rfl | h
      · have := mono r (min old p.1); omega
      · exact firstOf_mem r _ p h
structure OldRel (base : Nat) (old : Int) (L : List (Int × Int)) (w : World) (k : Nat) (vb vh : Value) (wr : World) : Prop where
  fore : wr.ownsRow base 32 2 vb (ahead old (L.take k)).length (spanCells (ahead old (L.take k)))
  hind : wr.ownsRow base 32 2 vh (behind old (L.take k)).length (spanCells (behind old (L.take k)))
  apart : vb.ownBlock = none ∨ vb.ownBlock ≠ vh.ownBlock
  below : Below base w wr
theorem take_next {L : List (Int × Int)} {k : Nat} {p : Int × Int} (h : L[k]? = some p) : L.take (k + 1) = L.take k ++ [p] := by
  rw [List.take_add_one, h]; rfl
theorem own_drewN {w : World} {base : Nat} {e : TypeId} {size : Nat} {v : Value} {n q : Nat} {xs : List Value} (h : w.ownsRow base e size v n xs) : (w.drewN q).ownsRow base e size v n xs := own_below h (below_drewN (Below.refl _ _)) (Nat.le_refl _)
theorem cell_drewN {w : World} {b o q : Nat} {v : Value} (h : w.cell? ⟨b, o, none⟩ = some v) : (w.drewN q).cell? ⟨b, o, none⟩ = some v := h
theorem cell_grown {w w' : World} {row : Option Nat} {b o : Nat} {v : Value} (hg : w.grownBy w' row) (h : w.cell? ⟨b, o, none⟩ = some v) (hb : some b ≠ row) : w'.cell? ⟨b, o, none⟩ = some v :=
  (World.cell?_of_block (a := ⟨b, o, none⟩) (hg.block b (block_of_cell h) hb)).trans h
theorem OldRel.hindNext {base : Nat} {old : Int} {L : List (Int × Int)} {w wr w3 : World} {k q g m cap : Nat} {vb vh : Value} {p1 p2 : Int} {o : Obj} (h : OldRel base old L w k vb vh wr) (hb : base ≤ w.heap.size) (hp : L[k]? = some (p1, p2)) (hge : old ≤ p1)
    (ho : w3.ownsRow base 32 2 (.slice (some ⟨g, 0, none⟩) m cap) ((behind old (L.take k)).length + 1) (spanCells (behind old (L.take k)) ++ [.int .u64 p1, .int .u64 p2]))
    (hg : ((wr.drewN q).alloc o).grownBy w3 vh.ownBlock) (ha : vh.ownBlock = some g ∨ g = ((wr.drewN q).alloc o).heap.size) : OldRel base old L w (k + 1) vb (.slice (some ⟨g, 0, none⟩) m cap) w3 := by
  have hs := h.below.size
  have ht := take_next hp
  refine ⟨?_, ?_, ?_, ?_⟩
  · rw [ht, ahead_append, ahead_no hge, List.append_nil]
    exact ((own_drewN h.fore).alloc o).kept hg h.apart
  · rw [ht, behind_append, behind_yes hge, spanCells_append]
    exact own_congr ho (by simp) rfl
  · rcases h.apart with e | e
    · exact .inl e
    · right
      rcases ha with a | a
      · exact fun c => e (c.trans a.symm)
      · intro c
        have := (h.fore.lt g c).2
        simp at a; omega
  · exact (((below_drewN h.below).alloc (by simp; omega) o).grown hg (by simp; omega) (fun k hk => (h.hind.lt k hk).1))
theorem OldRel.foreNext {base : Nat} {old : Int} {L : List (Int × Int)} {w wr w3 : World} {k q g m cap : Nat} {vb vh : Value} {p1 p2 : Int} {o : Obj} (h : OldRel base old L w k vb vh wr) (hb : base ≤ w.heap.size) (hp : L[k]? = some (p1, p2)) (hge : p1 < old)
    (ho : w3.ownsRow base 32 2 (.slice (some ⟨g, 0, none⟩) m cap) ((ahead old (L.take k)).length + 1) (spanCells (ahead old (L.take k)) ++ [.int .u64 p1, .int .u64 p2]))
    (hg : ((wr.drewN q).alloc o).grownBy w3 vb.ownBlock) (ha : vb.ownBlock = some g ∨ g = ((wr.drewN q).alloc o).heap.size) : OldRel base old L w (k + 1) (.slice (some ⟨g, 0, none⟩) m cap) vh w3 := by
  have hs := h.below.size
  have ht := take_next hp
  have hap : vh.ownBlock = none ∨ vh.ownBlock ≠ vb.ownBlock := by
    rcases h.apart with e | e
    · rw [e]; cases vh.ownBlock <;> simp
    · exact .inr (fun c => e c.symm)
  refine ⟨?_, ?_, ?_, ?_⟩
  · rw [ht, ahead_append, ahead_yes hge, spanCells_append]
    exact own_congr ho (by simp) rfl
  · rw [ht, behind_append, behind_no hge, List.append_nil]
    exact ((own_drewN h.hind).alloc o).kept hg hap
  · right
    intro c
    have c' : vh.ownBlock = some g := c.symm
    rcases ha with a | a
    · rcases hap with e | e
      · rw [e] at c'; cases c'
      · exact e (c'.trans a.symm)
    · have := (h.hind.lt g c').2
      simp at a; omega
  · exact (((below_drewN h.below).alloc (by simp; omega) o).grown hg (by simp; omega) (fun k hk => (h.fore.lt k hk).1))
set_option maxRecDepth 100000 in
set_option maxHeartbeats 4000000 in
theorem old_bad (a : Nat → Addr) (B : Nat) (x sz : Int) (w : World) (hE0 : Env B a w) (h0 : 0 ≤ x) (h1 : x < 18446744073709551616) (h4 : 0 ≤ sz) (h5 : sz < 18446744073709551616) (h : 9223372036854775808 < sz ∨ x = 0 ∨ sz < x) :
    Calls Tryd.prog 5 #[.int .u64 x, .int .u64 sz] w fun ev w' => ev = .returned (.bool true) ∧ Below w.heap.size w w' := by
  have hE := Lib.hid hE0
  clear hE0
  have HH := Lib.hid h
  obtain ⟨b, hs⟩ : ∃ b, Hid (b = decide (sz ≤ 9223372036854775808)) := ⟨_, Lib.hid rfl⟩
  have hb : Hid (b = true → sz ≤ 9223372036854775808) := Lib.hid (by intro q; have := hs.out; rw [q] at this; exact of_decide_eq_true this.symm)
  have hz : Hid (x = 0 ∨ x ≠ 0) := Lib.hid (by omega)
  clear h
  rcases hz.out with hx | hx
  · subst hx
    cases b
    all_goals
      go_enter Tryd.func5, Tryd.ntmps5
      go_wp2_with fail
      refine (proof_fail a B 0 sz _ (Env.laid (by (repeat (first | exact hE.out | (refine Env.step ?_ (by assumption)) | (refine Env.alloc ?_ _))))) (by omega) (by omega) (by omega) (by omega) (.inr (.inl rfl))).mono ?_
      rintro ev w1 ⟨rfl, b1⟩
      go_wp2_with fail
      refine (alive_any a B _ (by (repeat (first | exact hE.out | (refine Env.step ?_ (by assumption)) | (refine Env.alloc ?_ _))))).mono ?_
      rintro ev w2 ⟨rfl, b2⟩
      go_wp2_with fail
      refine (sized_any _ _ _ (by omega) (by omega) hs.out).mono ?_
      rintro ev w' ⟨rfl, rfl⟩
      unfold errV
      go_wp2_with fail
      refine (is_sent a B 5 _ (Env.laid (by (repeat (first | exact hE.out | (refine Env.step ?_ (by assumption)) | (refine Env.alloc ?_ _))))) (by omega) (by omega)).mono ?_
      rintro ev w3 ⟨rfl, b3⟩
      have HB : Hid (Gr w w3) := Lib.hid (by (repeat (first | exact Gr.refl _ | (refine Gr.step ?_ (by assumption)) | (refine Gr.alloc ?_ _) | (refine Gr.drew ?_) | (refine Gr.drewN ?_ _))))
      go_wp2
      go_ret
      exact ⟨rfl, HB.out⟩
  · have hne : (x == 0) = false := by simpa using hx
    cases b
    all_goals
      try have hlt : sz < x := by have := hb.out rfl; have := HH.out; omega
      go_enter Tryd.func5, Tryd.ntmps5
      go_wp2_with fail
      refine (proof_fail a B x sz _ (Env.laid (by (repeat (first | exact hE.out | (refine Env.step ?_ (by assumption)) | (refine Env.alloc ?_ _))))) (by omega) (by omega) (by omega) (by omega) HH.out).mono ?_
      rintro ev w1 ⟨rfl, b1⟩
      go_wp2_with fail
      refine (alive_any a B _ (by (repeat (first | exact hE.out | (refine Env.step ?_ (by assumption)) | (refine Env.alloc ?_ _))))).mono ?_
      rintro ev w2 ⟨rfl, b2⟩
      go_wp2_with fail
      refine (sized_any _ _ _ (by omega) (by omega) hs.out).mono ?_
      rintro ev w' ⟨rfl, rfl⟩
      unfold errV
      go_wp2_with fail
      refine (is_sent a B 5 _ (Env.laid (by (repeat (first | exact hE.out | (refine Env.step ?_ (by assumption)) | (refine Env.alloc ?_ _))))) (by omega) (by omega)).mono ?_
      rintro ev w3 ⟨rfl, b3⟩
      have HB : Hid (Gr w w3) := Lib.hid (by (repeat (first | exact Gr.refl _ | (refine Gr.step ?_ (by assumption)) | (refine Gr.alloc ?_ _) | (refine Gr.drew ?_) | (refine Gr.drewN ?_ _))))
      go_wp2
      go_ret
      exact ⟨rfl, HB.out⟩
set_option maxRecDepth 100000 in
set_option maxHeartbeats 8000000 in
theorem old_good (a : Nat → Addr) (B : Nat) (x sz : Int) (w : World) (hE0 : Env B a w) (h0 : 0 < x) (h1 : x ≤ sz) (h3 : sz ≤ 9223372036854775808) :
    Calls Tryd.prog 5 #[.int .u64 x, .int .u64 sz] w fun ev w' => ev = .returned (.bool true) ∧ Below w.heap.size w w' := by
  have hE := Lib.hid hE0
  clear hE0
  have hs : Hid (true = decide (sz ≤ 9223372036854775808)) := Lib.hid (by simpa using h3)
  have HP := Lib.hid (proofL_parts 64 x 0 sz (by omega) h0 h1 (by rw [pow2_64]; omega))
  have HL := Lib.hid (proofL_len 64 x 0 sz)
  have HZ : Hid (x = sz → proofL 64 x 0 sz = []) := Lib.hid (fun e => by subst e; rw [proofL_end, if_neg (by omega)])
  obtain ⟨i0, hi, hz0, hz1, hz2⟩ := info_parts info_span
  have hxz : (x == 0) = false := by simp; omega
  go_enter Tryd.func5, Tryd.ntmps5
  go_wp2_with fail
  refine (proof_ok x sz _ h0 h1 h3).mono ?_
  rintro ev w1 ⟨vl, rfl, o1, b1⟩
  obtain ⟨L, hLL⟩ : ∃ L, proofL 64 x 0 sz = L := ⟨_, rfl⟩
  rw [hLL] at o1
  have HLL := Lib.hid hLL
  clear hLL
  have HNN : Hid (∀ p ∈ L, 0 ≤ p.1) := Lib.hid (by
    intro p hp
    by_cases hlt : p.1 < x
    · have hf := HP.out.fore
      rw [HLL.out] at hf
      have hm : p ∈ ahead x L := by simp [ahead, hp, hlt]
      rcases hf with ⟨q, _⟩ | ⟨C, q1, q2⟩
      · rw [q] at hm; simp at hm
      · exact (Chain.mem q1 p (q2.mem_iff.2 hm)).1
    · omega)
  have hlen : L.length ≤ 65 := by have := HL.out; rw [HLL.out] at this; omega
  obtain ⟨n, hn⟩ : ∃ n, L.length = n := ⟨_, rfl⟩
  obtain ⟨_, A, cap, hvl, hA⟩ := rd_own o1
  rw [hn] at hvl hA hlen
  subst hvl
  have HN := Lib.hid hn
  have HA := Lib.hid hA
  clear hn hA o1
  go_wp2_with fail
  refine (alive_any a B _ (by (repeat (first | exact hE.out | (refine Env.step ?_ (by assumption)) | (refine Env.alloc ?_ _))))).mono ?_
  rintro ev w2 ⟨rfl, b2⟩
  go_wp2_with fail
  refine (sized_any _ true _ (by omega) (by omega) hs.out).mono ?_
  rintro ev w' ⟨rfl, rfl⟩
  have hnn : (n : Int) ≤ lgI sz + 1 := by have := HP.out.log; rw [HLL.out, HN.out, show sz - 0 = sz by omega] at this; omega
  go_wp2_with fail
  refine (most_yes _ _ _ _ (by omega) hnn (by omega) (by omega) (by omega) (by omega)).mono ?_
  rintro ev w' ⟨rfl, rfl⟩
  clear hnn
  have hguard : Hid (x = sz ∧ n = 0 ∨ x ≠ sz) := Lib.hid (by
    by_cases e : x = sz
    · have := HZ.out e; rw [HLL.out] at this; subst this; exact .inl ⟨e, by rw [← HN.out]; rfl⟩
    · exact .inr e)
  have hbase : w.heap.size ≤ w2.heap.size := by have := b1.size; have := b2.size; omega
  have loop : True := trivial
  rcases hguard.out with ⟨e, hn0⟩ | e
  all_goals
    first
    | (have hn0' : ((n : Int) != 0) = false := by simp [hn0]
       have heq : (x == sz) = true := by simpa using e
       clear hn0 e)
    | (have hne : (x == sz) = false := by simpa using e
       clear e)
    go_wp2
    go_loopw [7, 8, 9, 10] (fun vb vh fi i wr => ∃ (k : Nat) (fi' : Int), k ≤ n ∧ i = .int .i64 k ∧ fi = .int .u64 fi' ∧ 0 ≤ fi' ∧ fi' ≤ x ∧ Hid (fi' = firstOf x (ahead x (L.take k)) ∧ OldRel w2.heap.size x L w2 k vb vh wr)) (fun _ _ _ i _ => n - (intOf i).toNat)
    case atStart => exact ⟨0, x, by omega, rfl, rfl, by omega, Int.le_refl _, Lib.hid ⟨rfl, World.ownsRow_nil _ _ _ _, World.ownsRow_nil _ _ _ _, .inl rfl, Below.refl _ _⟩⟩
    case round =>
      obtain ⟨k, fi, hk, rfl, rfl, hf0, hf1, HR⟩ := hrel
      have hbb := HR.out.2.below.size
      by_cases hlt : k < n
      · obtain ⟨g, rfl, hc⟩ : ∃ g, A = some ⟨g, 0, none⟩ ∧ ∀ j u, (spanCells L)[j]? = some u → w1.cell? ⟨g, j, none⟩ = some u := by
          rcases HA.out with q | q
          · omega
          · exact q
        obtain ⟨⟨p1, p2⟩, hp⟩ : ∃ p, L[k]? = some p := ⟨_, List.getElem?_eq_getElem (by have := HN.out; omega)⟩
        have cc := fun j u hj => cell_below HR.out.2.below (cell_below b2 (hc j u hj) (block_of_cell (hc j u hj))) (by have := block_of_cell (hc j u hj); have := b2.size; omega)
        have c0 := cc _ _ (spanCells_at L _ _ hp).1
        have c1 := cc _ _ (spanCells_at L _ _ hp).2
        simp only at c0 c1
        obtain ⟨he1, he2⟩ := HP.out.each (p1, p2) (by rw [HLL.out]; exact List.mem_of_getElem? hp)
        simp only at he1 he2
        have HPK := Lib.hid hp
        have gl := block_of_cell c0
        have i1 : (k : Int) < n := by omega
        have HGL : Hid (g < w1.heap.size) := Lib.hid (block_of_cell (hc _ _ (spanCells_at L _ _ hp).1))
        clear hp cc hc
        have gl2 : g < w2.heap.size := by have := HGL.out; have := b2.size; omega
        have hkl : Hid ((behind x (L.take k)).length ≤ 65 ∧ (ahead x (L.take k)).length ≤ 65) := Lib.hid (by
          have h1 : (L.take k).length ≤ n := by rw [List.length_take, HN.out]; omega
          exact ⟨Nat.le_trans (List.length_filter_le _ _) (by omega), Nat.le_trans (List.length_filter_le _ _) (by omega)⟩)
        by_cases hge : x ≤ p1
        · clear he2
          have hnl : decide (p1 < x) = false := by simpa using hge
          have hnk : decide (p2 ≤ p1) = false := by simpa using he1
          have HGE := Lib.hid hge
          clear hge he1
          have oh := HR.out.2.hind
          obtain ⟨nb, hnb⟩ : ∃ nb, (behind x (L.take k)).length = nb := ⟨_, rfl⟩
          have hnb2 : nb ≤ 65 := by rw [← hnb]; exact hkl.out.1
          rw [hnb] at oh
          have HNB := Lib.hid hnb
          clear hnb
          go_wp2
          go_quiet (fail)
          have hge := HGE.out
          clear hnl hnk
          go_wp2_with (at_builtin; refine wpList_append_lies _ rfl _ _ 23 rfl w2.heap.size 32 i0 (.agg #[.int .u64 0, .int .u64 0]) 2 16 Tryd.underlying23 hi hz0 hz1 hz2 rfl (by decide) u8 _ _ rfl ((own_drewN oh).alloc _) ⟨wr.heap.size, 0, none⟩ 1 1 _ rfl rfl (news_new _ _) (by simp [Value.oneCell']) (by decide) (by unfold maxLen; omega) (by omega) (by simp; omega) _ rfl ?_; intro g3 cap3 w3 hown3 hgrow3 hat3 hlt3)
          go_roundw
          case rel => exact ⟨k + 1, fi, by omega, by go_num, rfl, hf0, hf1, Lib.hid ⟨by rw [take_next HPK.out, ahead_append, ahead_no hge, List.append_nil]; exact HR.out.1, HR.out.2.hindNext (Nat.le_refl _) HPK.out hge (own_congr hown3 (by rw [HNB.out]) rfl) hgrow3 hat3⟩⟩
          case measure => simp [intOf]; omega
        · have he3 : p2 ≤ x := by omega
          have hlt1 : p1 < x := by omega
          have hp0 : 0 ≤ p1 := by have := HNN.out (p1, p2) (List.mem_of_getElem? HPK.out); exact this
          have hnk : decide (p2 ≤ p1) = false := by simpa using he1
          clear he2 hge he1
          have oh := HR.out.2.fore
          obtain ⟨nb, hnb⟩ : ∃ nb, (ahead x (L.take k)).length = nb := ⟨_, rfl⟩
          have hnb2 : nb ≤ 65 := by rw [← hnb]; exact hkl.out.2
          rw [hnb] at oh
          have HNB := Lib.hid hnb
          clear hnb
          go_wp2
          go_quiet (fail)
          go_wp2_with (at_builtin; first | (refine wpList_append_lies _ rfl _ _ 23 rfl w2.heap.size 32 i0 (.agg #[.int .u64 0, .int .u64 0]) 2 16 Tryd.underlying23 hi hz0 hz1 hz2 rfl (by decide) u7 _ _ rfl ((own_drewN oh).alloc _) ⟨wr.heap.size, 0, none⟩ 1 1 _ rfl rfl (news_new _ _) (by simp [Value.oneCell']) (by decide) (by unfold maxLen; omega) (by omega) (by simp; omega) _ rfl ?_; intro g3 cap3 w3 hown3 hgrow3 hat3 hlt3; have c0' := cell_grown hgrow3 (cell_alloc (cell_drewN c0) _) (own_ne_low oh gl2)))
          go_roundw
          case rel => exact ⟨k + 1, min fi p1, by omega, by go_num, rfl, by omega, by omega, Lib.hid ⟨by rw [take_next HPK.out, ahead_append, ahead_yes hlt1, firstOf_snoc, ← HR.out.1], HR.out.2.foreNext (Nat.le_refl _) HPK.out hlt1 (own_congr hown3 (by rw [HNB.out]) rfl) hgrow3 hat3⟩⟩
          case measure => simp [intOf]; omega
      · obtain rfl : k = n := by omega
        have HR2 : Hid (fi = firstOf x (ahead x L) ∧ OldRel w2.heap.size x L w2 L.length u7 u8 wr) := Lib.hid (by
          have h := HR.out; rw [← HN.out] at h; rw [List.take_length] at h; exact h)
        obtain ⟨C1, hc1, hc2⟩ := HP.out.hind
        rw [HLL.out] at hc2
        have hrv := rd_own HR2.out.2.fore
        have hrh := rd_own HR2.out.2.hind
        rw [List.take_length] at hrv hrh
        have HRV := Lib.hid hrv
        have HRH := Lib.hid hrh
        have HCC := Lib.hid (And.intro hc1 hc2)
        have hgw : Hid (Gr w wr) := Lib.hid (by
          have h := HR2.out.2.below
          have h1 : Gr w w2 := (Gr.refl w).step b1 |>.step b2
          exact h1.step h)
        have hfi : Hid ((fi = 0 ∧ ∃ C, Chain 0 C x ∧ C.Perm (ahead x L)) ∨ (fi = x ∧ ahead x L = [])) := Lib.hid (by
          have hf := HP.out.fore
          rw [HLL.out] at hf
          rcases hf with ⟨q, _⟩ | ⟨C, q1, q2⟩
          · exact .inr ⟨by have h := HR2.out.1; rw [q] at h; exact h, q⟩
          · refine .inl ⟨?_, C, q1, q2⟩
            cases C with
            | nil => exfalso; have : (0 : Int) = x := q1; omega
            | cons z r =>
              have hm := firstOf_mem (ahead x L) x z (q2.mem_iff.1 (by simp))
              have := q1.1
              rw [← HR2.out.1] at hm; omega)
        have hal : (ahead x L).length ≤ 65 := Nat.le_trans (List.length_filter_le _ _) (by have := HN.out; omega)
        have hbl : (behind x L).length ≤ 65 := Nat.le_trans (List.length_filter_le _ _) (by have := HN.out; omega)
        clear hc1 hc2 hrv hrh
        have hch : Hid (∃ C, Chain fi C x ∧ C.Perm (ahead x L)) := Lib.hid (by
          rcases hfi.out with ⟨e0, C, q1, q2⟩ | ⟨e0, q⟩
          · subst e0; exact ⟨C, q1, q2⟩
          · subst e0; exact ⟨[], rfl, by rw [q]⟩)
        have hor : Hid (fi = 0 ∨ fi = x) := Lib.hid (by
          rcases hfi.out with ⟨e0, C, q1, q2⟩ | ⟨e0, q⟩
          · exact .inl e0
          · exact .inr e0)
        have HAL := Lib.hid (And.intro hal hbl)
        clear hal hbl hfi
        go_wp2_with fail
        refine (tiles_yes C1 (behind x L) x sz _ _ (by have := HAL.out.2; omega) (by omega) (by omega) HRH.out HCC.out.1 HCC.out.2).mono ?_
        rintro ev w5 ⟨rfl, b5⟩
        go_wp2_with fail
        obtain ⟨C, q1, q2⟩ := hch.out
        refine (tiles_yes C (ahead x L) fi x _ _ (by have := HAL.out.1; omega) (by omega) (by omega) (HRV.out.below b5) q1 q2).mono ?_
        rintro ev w6 ⟨rfl, b6⟩
        clear q1 q2
        have HB : Hid (Gr w w6) := Lib.hid ((hgw.out.step b5).step b6)
        rcases hor.out with e0 | e0
        · subst e0
          go_wp2
          go_ret
          exact ⟨rfl, HB.out⟩
        · by_cases hfz : (fi == 0) = true
          all_goals
            have hfx : (fi == x) = true := by simpa using e0
            clear e0
            go_wp2
            go_ret
            exact ⟨rfl, HB.out⟩
end Go.Proofs.YtnddjadjmgfgnaaDoor
