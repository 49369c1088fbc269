/- cartularylaw01.Book: growCoord: so many marks more behind each list that the book holds. No condition. -/
import Derived.Test.YtnddjadjmgfgnaaGreatDoorFillCoord
namespace Go.Proofs.YtnddjadjmgfgnaaGreatDoor
open Go.ChangeShapes Go.WideShapes Go.ChangeAt Go.RowKit
set_option linter.unusedVariables false
theorem info_markCoord : (Tryz.prog.info? 77).map (fun i => (i.zero, i.size, i.bytes)) = some (some (.agg #[.int .u8 0, .int .u64 0]), 2, 16) := by kernel_rfl
/-- the list and its longer twin are marks -/
structure LongCoord (h : Hold) (lv : Value) (n : Nat) (b : Nat) (w : World) : Prop where
  form : ∃ cap, lv = .slice (some ⟨b, 0, none⟩) n cap
  lt : b < w.heap.size
  cells : ∀ j o u, j < n → (markCoord h.num)[o]? = some u → w.cell? ⟨b, j * 2 + o, none⟩ = some u
/-- the list's own cells are marks -/
def OldCoord (h : Hold) (w : World) : Prop := h.n = 0 ∨ ∃ g, (∃ c, h.v = .slice (some ⟨g, 0, none⟩) h.n c) ∧ g < w.heap.size ∧ ∀ j o u, j < h.n → (markCoord h.num)[o]? = some u → w.cell? ⟨g, j * 2 + o, none⟩ = some u
/-- behind i lists -/
structure GrowCoord (base K r : Nat) (H : List Hold) (w : World) (i : Nat) (lg : Nat → Value) (wr : World) : Prop where
  bk : wr.heap[K]? = w.heap[K]?
  row : RowAt r H lg wr
  todo : ∀ (t : Nat) (h : Hold), H[t]? = some h → i ≤ t → ∃ ys, wr.ownsRow base 77 2 h.v h.n ys ∧ Mk (markCoord h.num) 2 h.n ys
  lgs : ∀ t, i ≤ t → lg t = .slice none 0 0
  done : ∀ (t : Nat) (h : Hold), H[t]? = some h → t < i → OldCoord h wr ∧ ∃ b, LongCoord h (lg t) (h.n + 70) b wr ∧ b ≠ K ∧ b ≠ r ∧ ∀ (u : Nat) (g : Hold), H[u]? = some g → i ≤ u → g.v.ownBlock ≠ some b
  below : Below base w wr
theorem LongCoord.keep {h : Hold} {lv : Value} {n b : Nat} {w w' : World} (x : LongCoord h lv n b w) (hb : w'.heap[b]? = w.heap[b]?) (hs : w.heap.size ≤ w'.heap.size) : LongCoord h lv n b w' :=
  ⟨x.form, Nat.lt_of_lt_of_le x.lt hs, fun j o u hj hu => cell_block hb (x.cells j o u hj hu)⟩
theorem OldCoord.keep {h : Hold} {w w' : World} (x : OldCoord h w) (hb : ∀ g, h.v.ownBlock = some g → g < w.heap.size → w'.heap[g]? = w.heap[g]?) (hs : w.heap.size ≤ w'.heap.size) : OldCoord h w' := by
  rcases x with q | ⟨g, a, b, c⟩
  · exact .inl q
  · exact .inr ⟨g, a, Nat.lt_of_lt_of_le b hs, fun j o u hj hu => cell_block (hb g (by obtain ⟨c2, e⟩ := a; rw [e]; rfl) b) (c j o u hj hu)⟩
/-- while the longer twin of one list grows: nothing else turns but that list's own row and new blocks -/
structure MidCoord (base : Nat) (wo : World) (x : Hold) (k : Nat) (lv : Value) (wr : World) : Prop where
  own : ∃ ys, wr.ownsRow base 77 2 lv (x.n + k) ys ∧ Mk (markCoord x.num) 2 (x.n + k) ys
  old : OldCoord x wr
  blk : lv.ownBlock = x.v.ownBlock ∨ ∃ b, lv.ownBlock = some b ∧ wo.heap.size ≤ b
  gr : wo.grownBy wr x.v.ownBlock
theorem MidCoord.mark {base : Nat} {wo wr w2 : World} {x : Hold} {k : Nat} {lv : Value} (h : MidCoord base wo x k lv wr) (h2 : Below wr.heap.size wr w2) : MidCoord base wo x k lv w2 :=
  ⟨by obtain ⟨ys, a, b⟩ := h.own; exact ⟨ys, own_below a h2 (Nat.le_refl _), b⟩, h.old.keep (fun g _ hg => h2.block g hg) h2.size, h.blk,
    ⟨h2.os.trans h.gr.os, h2.tape.trans h.gr.tape, h2.output.trans h.gr.output, Nat.le_trans h.gr.size h2.size, fun k' hk hne => (h2.block k' (Nat.lt_of_lt_of_le hk h.gr.size)).trans (h.gr.block k' hk hne)⟩⟩
theorem MidCoord.snoc {base : Nat} {wo wr w3 : World} {x : Hold} {k g cap : Nat} {lv : Value} {ys : List Value} (h : MidCoord base wo x k lv wr) (ho : wr.ownsRow base 77 2 lv (x.n + k) ys) (hm : Mk (markCoord x.num) 2 (x.n + k) ys) {m : Nat} (hmm : m = x.n + k + 1)
    (h3 : w3.ownsRow base 77 2 (.slice (some ⟨g, 0, none⟩) m cap) m (ys ++ markCoord x.num)) (hc : (lv.ownBlock = some g ∧ wr.grownBy w3 (some g)) ∨ (wr.heap.size ≤ g ∧ wr.grownBy w3 none)) :
    MidCoord base wo x (k + 1) (.slice (some ⟨g, 0, none⟩) m cap) w3 := by
  subst hmm
  have hmk := hm.snoc ho.1 rfl
  have hw := h.gr.size
  rcases hc with ⟨hb, hg⟩ | ⟨hb, hg⟩
  · refine ⟨⟨_, h3, hmk⟩, ?_, ?_, ?_⟩
    · rcases h.old with q | ⟨g0, a, b, c⟩
      · exact .inl q
      · by_cases e : g0 = g
        · subst e
          refine .inr ⟨g0, a, (h3.lt g0 rfl).2, fun j o u hj hu => ?_⟩
          have := h3.cells (g := g0) rfl _ _ (hmk j o u (by omega) hu)
          rwa [addr_add] at this
        · exact .inr ⟨g0, a, Nat.lt_of_lt_of_le b hg.size, fun j o u hj hu => cell_block (hg.block g0 b (fun q => e (by injection q))) (c j o u hj hu)⟩
    · rcases h.blk with q | ⟨b, q1, q2⟩
      · left; rw [← q, hb]; rfl
      · right; rw [hb] at q1; injection q1 with q1; subst q1; exact ⟨g, rfl, q2⟩
    · refine ⟨hg.os.trans h.gr.os, hg.tape.trans h.gr.tape, hg.output.trans h.gr.output, Nat.le_trans hw hg.size, fun k' hk hne => ?_⟩
      refine (hg.block k' (Nat.lt_of_lt_of_le hk hw) (fun q => ?_)).trans (h.gr.block k' hk hne)
      injection q with q; subst q
      rcases h.blk with q | ⟨b, q1, q2⟩
      · exact hne (by rw [← q, hb])
      · rw [hb] at q1; injection q1 with q1; omega
  · refine ⟨⟨_, h3, hmk⟩, h.old.keep (fun g' _ hg' => hg.block g' hg' (by simp)) hg.size, .inr ⟨g, rfl, by omega⟩, ?_⟩
    exact ⟨hg.os.trans h.gr.os, hg.tape.trans h.gr.tape, hg.output.trans h.gr.output, Nat.le_trans hw hg.size, fun k' hk hne => (hg.block k' (Nat.lt_of_lt_of_le hk hw) (by simp)).trans (h.gr.block k' hk hne)⟩
/-- the twin is done: it is laid into the book's row -/
theorem GrowCoord.next {base K r : Nat} {H : List Hold} {w wr wo w3 : World} {i : Nat} {lg : Nat → Value} {x : Hold} {lv : Value} (h : GrowCoord base K r H w i lg wr) (ha : Away K r H) (hx : H[i]? = some x) (hK : K < wr.heap.size) (hr : r < wr.heap.size) (hbs : base ≤ w.heap.size) (hbr : base ≤ r)
    (hwo : Below wr.heap.size wr wo) (hM : MidCoord base wo x 70 lv w3) :
    GrowCoord base K r H w (i + 1) (fun t => if t = i then lv else lg t) (w3.setCell ⟨r, i * 3 + 1, none⟩ lv) := by
  have hws := hwo.size
  have hfar := ha.far i x hx
  have hrb := h.below.size
  have hsz := hM.gr.size
  -- what lay in wr and isn't x's own row lies as it lay
  have same : ∀ b, b < wr.heap.size → x.v.ownBlock ≠ some b → b ≠ r → (w3.setCell ⟨r, i * 3 + 1, none⟩ lv).heap[b]? = wr.heap[b]? := fun b hb hne hbr =>
    (Below.heap_setCell w3 ⟨r, i * 3 + 1, none⟩ lv b hbr).trans ((hM.gr.block b (by omega) (fun e => hne e.symm)).trans (hwo.block b hb))
  have hrow3 : w3.heap[r]? = wr.heap[r]? := (hM.gr.block r (by omega) (fun e => hfar.2 e.symm)).trans (hwo.block r hr)
  have hr3 := h.row.block hrow3
  obtain ⟨ys, oy, my⟩ := hM.own
  obtain ⟨g, cap, hlv, hg1, hg2⟩ := oy.form (by omega)
  have hob : lv.ownBlock = some g := by rw [hlv]; rfl
  have hgK : g ≠ K := by
    rcases hM.blk with q | ⟨b, q1, q2⟩
    · intro e; subst e; exact hfar.1 (by rw [← q, hob])
    · rw [hob] at q1; injection q1 with q1; omega
  have hgr : g ≠ r := by
    rcases hM.blk with q | ⟨b, q1, q2⟩
    · intro e; subst e; exact hfar.2 (by rw [← q, hob])
    · rw [hob] at q1; injection q1 with q1; omega
  refine ⟨?_, ⟨?_, ?_⟩, ?_, ?_, ?_, ?_⟩
  · exact (same K hK (fun q => hfar.1 q) ha.kr).trans h.bk
  · intro t y hy
    obtain ⟨a, b, c⟩ := hr3.cells t y hy
    refine ⟨?_, ?_, ?_⟩
    · rw [World.cell?_setCell_other _ _ _ _ (by intro q; injection q; omega)]; exact a
    · by_cases e : t = i
      · subst e; simp only [if_true]
        exact World.cell?_setCell_same' _ _ _ (by rw [b]; rfl)
      · simp only [e, if_false]
        rw [World.cell?_setCell_other _ _ _ _ (by intro q; injection q; omega)]; exact b
    · rw [World.cell?_setCell_other _ _ _ _ (by intro q; injection q; omega)]; exact c
  · intro t; rw [World.frozen?_setCell]; exact hr3.free t
  · intro t y hy ht
    obtain ⟨zs, a, b⟩ := h.todo t y hy (by omega)
    refine ⟨zs, ?_, b⟩
    have hty := ha.two t i y x hy hx (by omega)
    have o1 := own_below a hwo (Nat.le_refl _)
    have o2 := o1.kept hM.gr hty
    exact own_setCell o2 (fun e => (ha.far t y hy).2 e.symm) _
  · intro t ht; simp only [show t ≠ i by omega, if_false]; exact h.lgs t (by omega)
  · intro t y hy ht
    by_cases e : t = i
    · subst e
      rw [hx] at hy; cases hy
      refine ⟨hM.old.keep (fun g' hg' _ => Below.heap_setCell w3 _ _ g' (fun q => hfar.2 (by rw [hg']; exact congrArg some q))) (by simp), g, ?_, hgK, hgr, ?_⟩
      · simp only [if_true]
        refine LongCoord.keep (w := w3) ⟨⟨cap, hlv⟩, hg2, fun j o u hj hu => ?_⟩ (Below.heap_setCell w3 _ _ g hgr) (by simp)
        have := oy.cells (g := g) hob _ _ (my j o u hj hu)
        rwa [addr_add] at this
      · intro u y2 hy2 hu
        rcases hM.blk with q | ⟨b, q1, q2⟩
        · rcases ha.two u t y2 x hy2 hx (by omega) with z | z
          · rw [z]; simp
          · rw [← hob, q]; exact z
        · rw [hob] at q1; injection q1 with q1; subst q1
          intro z
          obtain ⟨zs, a, _⟩ := h.todo u y2 hy2 (by omega)
          have := (a.lt g z).2
          omega
    · obtain ⟨a, b, lb, nk, nr, far⟩ := h.done t y hy (by omega)
      simp only [e, if_false]
      have hxb : x.v.ownBlock ≠ some b := far i x hx (Nat.le_refl _)
      refine ⟨a.keep (fun g' hg' hl => same g' hl (fun q => ?_) (fun q => (ha.far t y hy).2 (by rw [hg', q]))) (by simp; omega), b, lb.keep (same b lb.lt hxb nr) (by simp; omega), nk, nr, fun u y2 hy2 hu => far u y2 hy2 (by omega)⟩
      rcases ha.two t i y x hy hx (by omega) with z | z
      · rw [z] at hg'; cases hg'
      · exact z (by rw [hg', q])
  · obtain ⟨zs, a, _⟩ := h.todo i x hx (Nat.le_refl _)
    exact ((h.below.trans (hwo.mono (by omega))).grown hM.gr (by omega) (fun k' e => (a.lt k' e).1)).setCell hbr _
set_option maxRecDepth 100000 in
set_option maxHeartbeats 4000000 in
theorem grow_coord (base K r m cap : Nat) (H : List Hold) (w : World) (hm : H.length = m) (hm2 : m ≤ 1000000) (hbase : base ≤ w.heap.size) (hc : w.cell? ⟨K, 6, none⟩ = some (.slice (some ⟨r, 0, none⟩) m cap)) (hrow : RowAt r H (fun _ => .slice none 0 0) w) (hr : r < w.heap.size) (hbr : base ≤ r) (ha : Away K r H)
    (hl : ∀ (t : Nat) (h : Hold), H[t]? = some h → ∃ ys, w.ownsRow base 77 2 h.v h.n ys ∧ Mk (markCoord h.num) 2 h.n ys) (hn : ∀ (t : Nat) (h : Hold), H[t]? = some h → h.n ≤ 1000000 ∧ 0 ≤ h.num ∧ h.num ≤ 1000000) :
    Calls Tryz.prog 50 #[.pointer (some ⟨K, 0, none⟩)] w fun ev w' => ev = .returned (.tuple #[]) ∧ ∃ lg, GrowCoord base K r H w m lg w' := by
  have hK := block_of_cell hc
  have HF : Hid (GrowCoord base K r H w 0 (fun _ => .slice none 0 0) w) := Lib.hid ⟨rfl, hrow, fun t h ht _ => hl t h ht, fun _ _ => rfl, fun t h ht q => by omega, Below.refl _ _⟩
  have HN := Lib.hid hn
  have HM := Lib.hid hm
  have HA := Lib.hid ha
  obtain ⟨i0, hi, hz0, hz1, hz2⟩ := info_parts info_markCoord
  clear hn hm hrow ha hl
  go_enter Tryz.func50, Tryz.ntmps50
  go_wp2
  go_loopw [2] (fun i wr => ∃ (k : Nat) (lg : Nat → Value), k ≤ m ∧ i = .int .i64 k ∧ Hid (GrowCoord base K r H w k lg wr)) (fun i _ => m - (intOf i).toNat)
  case atStart => exact ⟨0, _, by omega, rfl, HF⟩
  case round =>
    obtain ⟨k, lg, hk, rfl, HR⟩ := hrel
    have hKc := cell_block HR.out.bk hc
    have hKw := block_of_cell hKc
    have hsz := HR.out.below.size
    by_cases hlt : k < m
    · obtain ⟨x, hx⟩ : ∃ x, H[k]? = some x := ⟨_, List.getElem?_eq_getElem (by have := HM.out; omega)⟩
      obtain ⟨r0, r1, r2⟩ := HR.out.row.cells k x hx
      rw [HR.out.lgs k (Nat.le_refl _)] at r1
      have fz := HR.out.row.free (k * 3 + 1)
      obtain ⟨n1, n2, n3⟩ := HN.out k x hx
      obtain ⟨ys0, o0, m0⟩ := HR.out.todo k x hx (Nat.le_refl _)
      have hfar := HA.out.far k x hx
      obtain ⟨xv, xn, num⟩ := x
      obtain ⟨_, A, xcap, hxv, _⟩ := rd_own o0
      simp only at r0 r2 n1 n2 n3 hxv o0 m0 hfar
      subst hxv
      have HX := Lib.hid hx
      have HO0 := Lib.hid o0
      have HM0 := Lib.hid m0
      have HFAR := Lib.hid hfar
      have hrw := block_of_cell r0
      have i1 : (k : Int) < m := by omega
      clear hx o0 m0 hfar
      obtain ⟨wo, rfl⟩ : ∃ wo : World, wo = wr := ⟨_, rfl⟩
      go_wp2
      obtain ⟨W, hW⟩ : ∃ W, wo.alloc (.cells #[.slice A xn xcap, .slice none 0 0, .int .i64 num] 93) = W := ⟨_, rfl⟩
      have hbW : Hid (Below wo.heap.size wo W) := Lib.hid (by rw [← hW]; exact (Below.refl _ _).alloc (Nat.le_refl _) _)
      have b2 : W.cell? ⟨wo.heap.size, 2, none⟩ = some (.int .i64 num) := by rw [← hW]; exact cell_new _ _ 2 _ rfl
      have HS : Hid (MidCoord base W ⟨.slice A xn xcap, xn, num⟩ 0 (.slice A xn xcap) W) := Lib.hid (by
        have ow := own_below HO0.out hbW.out (Nat.le_refl _)
        refine ⟨⟨ys0, ow, HM0.out⟩, ?_, .inl rfl, ⟨rfl, rfl, rfl, Nat.le_refl _, fun _ _ _ => rfl⟩⟩
        by_cases q : xn = 0
        · exact .inl q
        · obtain ⟨g, c2, hv, h1, h2⟩ := ow.form (by omega)
          refine .inr ⟨g, ⟨c2, hv⟩, h2, fun j o u hj hu => ?_⟩
          have := ow.cells (g := g) (by rw [hv]; rfl) _ _ (HM0.out j o u hj hu)
          rwa [addr_add] at this)
      have HNE : Hid (some wo.heap.size ≠ (Value.slice A xn xcap).ownBlock) := Lib.hid (fun q => by have := (HO0.out.lt _ q.symm).2; omega)
      rw [hW]
      clear hW
      go_loopw [4, 5] (fun lv j wr => ∃ t : Nat, t ≤ 70 ∧ j = .int .i64 t ∧ Hid (MidCoord base W ⟨.slice A xn xcap, xn, num⟩ t lv wr)) (fun _ j _ => 70 - (intOf j).toNat)
      case atStart => exact ⟨0, by omega, rfl, HS⟩
      case round =>
        obtain ⟨t, ht, rfl, HI⟩ := hrel
        have e2 := cell_grown HI.out.gr b2 HNE.out
        have ge := block_of_cell e2
        have hbw : base ≤ wr.heap.size := by have := HI.out.gr.size; have := hbW.out.size; omega
        by_cases hlt2 : t < 70
        · obtain ⟨ys, oy, my⟩ := HI.out.own
          obtain ⟨nn, hnn⟩ : ∃ nn, xn + t = nn := ⟨_, rfl⟩
          simp only at oy my
          rw [hnn] at oy my
          have HMY := Lib.hid my
          have hnb : nn ≤ 1000070 := by omega
          clear my
          go_wp2_with (first | (go_at_call 96; refine (mark_coord num _ n2 n3).mono ?_; rintro ev w1 ⟨rfl, b1⟩; have o1 := own_below oy b1 (Nat.le_refl _); have hs1 := b1.size) | (at_builtin; refine wpList_append_split _ rfl _ _ 23 rfl base 77 i0 (.agg #[.int .u8 0, .int .u64 0]) 2 16 Tryz.underlying23 hi hz0 hz1 hz2 rfl (by decide) u4 nn ys rfl (o1.alloc _) ⟨w1.heap.size, 0, none⟩ 1 1 [.int .u8 201, .int .u64 num] rfl rfl (news_new _ _) (by simp [Value.oneCell']) (by decide) (by unfold maxLen; omega) (by omega) (by simp; omega) ?_; intro g3 cap3 w3 hown3 hsp3))
          go_roundw
          case rel => exact ⟨t + 1, by omega, by go_num, Lib.hid (((HI.out.mark b1).mark ((Below.refl _ _).alloc (Nat.le_refl _) _)).snoc (by simp only; rw [hnn]; exact o1.alloc _) (by simp only; rw [hnn]; exact HMY.out) (by simp only; omega) hown3 hsp3)⟩
          case measure => simp [intOf]; omega
        · obtain rfl : t = 70 := by omega
          obtain ⟨ys, oy, my⟩ := HI.out.own
          obtain ⟨g4, cap4, hg4, _, _⟩ := oy.form (by simp)
          subst hg4
          clear oy my
          have q1 := cell_grown HI.out.gr (cell_below hbW.out hKc hKw) (fun q => HFAR.out.1 q.symm)
          have q2 := cell_grown HI.out.gr (cell_below hbW.out r1 hrw) (fun q => HFAR.out.2 q.symm)
          have q3 : wr.frozen? ⟨r, k * 3 + 1, none⟩ = false := frozen_block (HI.out.gr.block r (by have := hbW.out.size; omega) (fun q => HFAR.out.2 q.symm)) (frozen_below hbW.out fz hrw)
          have HNX := Lib.hid (HR.out.next HA.out HX.out hKw hrw hbase hbr hbW.out HI.out)
          have g1 := block_of_cell q1
          have g2 := block_of_cell q2
          go_wp2
          go_roundw
          case rel => exact ⟨k + 1, _, by omega, by go_num, HNX⟩
          case measure => simp [intOf]; omega
    · obtain rfl : k = m := by omega
      go_wp2
      go_end0
      exact ⟨rfl, lg, HR.out⟩
end Go.Proofs.YtnddjadjmgfgnaaGreatDoor
