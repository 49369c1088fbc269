import Derived.Lib.BufferWrite
import Derived.Test.YtnpblpbcchminaaGreatDoorKbKeysTake
/- codec.Reader: Hash. Condition: the table reads as listed. -/
namespace Go.Proofs.YtnpblpbcchminaaGreatDoor
open Go.ChangeShapes Go.WideShapes Go.ChangeAt Go.RowKit
set_option linter.unusedVariables false
theorem wp_copy_row {P : Program} {o : Oper} {a : Act} {w : World} {K : Act → World → Prop} {Q : Exit → Act → World → Prop} (d x : Operand) (dT sT : TypeId) (hop : o.op = Op.call { callee := Callee.builtin Builtin.copy, args := #[d, x], argTypes := #[dT, sT] })
    (elem : TypeId) (hu : P.underlying dT = some (.slice elem)) (hs : (P.info? elem).map (·.size) = some 1) (g dLen dCap : Nat) (hd : a.eval d = .slice (some ⟨g, 0, none⟩) dLen dCap) (s : ByteArray) (hx : a.eval x = .string s)
    (cur : Array Value) (t : TypeId) (hg : w.heap[g]? = some (.cells cur t (0, 0))) (hle : s.size ≤ dLen) (hfit : 0 + s.size ≤ cur.size)
    (hK : K (a.put o.dst (goInt s.size)) (w.setRow g (cur.toList.take 0 ++ Lib.byteCells s.data.toList ++ cur.toList.drop (0 + s.size)).toArray)) : Oper.wp P o a w K Q := by
  have hrun := Lib.run_copy_row_string (P := P) w dT sT o.type elem g 0 dLen dCap s cur t hu hs hg hle hfit
  unfold Oper.wp
  simp [execOp, hop, resolve, invoke, builtin, hd, hx, hrun, Result.andThen]
  have hK2 := hK
  simp only [List.take_zero, List.nil_append, Nat.zero_add] at hK2
  exact hK2
theorem wp_copy_none {P : Program} {o : Oper} {a : Act} {w : World} {K : Act → World → Prop} {Q : Exit → Act → World → Prop} (d x : Operand) (dT sT : TypeId) (hop : o.op = Op.call { callee := Callee.builtin Builtin.copy, args := #[d, x], argTypes := #[dT, sT] })
    (elem : TypeId) (hu : P.underlying dT = some (.slice elem)) (hs : ((P.info? elem).map (·.size)).isSome = true) (ad : Option Addr) (dLen dCap : Nat) (hd : a.eval d = .slice ad dLen dCap) (s : ByteArray) (hx : a.eval x = .string s) (h0 : s.size = 0)
    (hK : K (a.put o.dst (goInt 0)) w) : Oper.wp P o a w K Q := by
  have hrun := Lib.run_copy_empty_string (P := P) w dT sT o.type elem ad dLen dCap s hu hs h0
  unfold Oper.wp
  simp [execOp, hop, resolve, invoke, builtin, hd, hx, hrun, Result.andThen]
  exact hK
theorem extract_bOf (S : ByteArray) (i k : Nat) : bOf (S.extract i (i + k)) = ((bOf S).drop i).take k := by
  unfold bOf
  simp [ByteArray.data_extract, List.extract_eq_take_drop]

def RAftyes (p : Nat) (W : World) (S : ByteArray) (i : Nat) : Prop := ROk p W S (i + 32)
theorem RAft_rowyes {{p : Nat}} {{w w' : World}} {{S : ByteArray}} {{i g : Nat}} (h : RAftyes p w S i) (f : ∀ (k : Nat) (x : Obj), k ≠ g → w.heap[k]? = some x → w'.heap[k]? = some x) (hg : p ≠ g) : RAftyes p w' S i := ⟨f _ _ hg h.1, h.2⟩
set_option maxRecDepth 100000 in
set_option maxHeartbeats 8000000 in
theorem rhash_yes (p i : Nat) (S : ByteArray) (w : World) (h : ROk p w S i) (hk : i + 32 ≤ S.size) :
    Calls Tryz.prog 112 #[.pointer (some ⟨p, 0, none⟩)] w fun ev w' => ev = .returned (hv (((bOf S).drop i).take 32)) ∧ ROk p w' S (i + 32) ∧ But (· = p) w w' := by
  obtain ⟨s, hs⟩ : ∃ s, S.extract i (i + 32) = s := ⟨_, rfl⟩
  have hq32 : (((bOf S).drop i).take 32).length = 32 := by rw [List.length_take, List.length_drop, bOf_length]; omega
  have hbs : bOf s = (((bOf S).drop i).take 32) := by rw [← hs]; exact extract_bOf S i 32
  have HS32 : Hid (s.size = 32) := Lib.hid (by rw [← bOf_length, hbs]; exact hq32)
  obtain ⟨vq, evq, Hvq, Zvq, Ivq, Ovq⟩ := row_of (((bOf S).drop i).take 32) hq32
  obtain ⟨wv, hwv⟩ : ∃ y9 : World, ((w.alloc (.cells #[.int .u8 0, .int .u8 0, .int .u8 0, .int .u8 0, .int .u8 0, .int .u8 0, .int .u8 0, .int .u8 0, .int .u8 0, .int .u8 0, .int .u8 0, .int .u8 0, .int .u8 0, .int .u8 0, .int .u8 0, .int .u8 0, .int .u8 0, .int .u8 0, .int .u8 0, .int .u8 0, .int .u8 0, .int .u8 0, .int .u8 0, .int .u8 0, .int .u8 0, .int .u8 0, .int .u8 0, .int .u8 0, .int .u8 0, .int .u8 0, .int .u8 0, .int .u8 0] 23)).alloc (.cells #[.int .u8 0, .int .u8 0, .int .u8 0, .int .u8 0, .int .u8 0, .int .u8 0, .int .u8 0, .int .u8 0, .int .u8 0, .int .u8 0, .int .u8 0, .int .u8 0, .int .u8 0, .int .u8 0, .int .u8 0, .int .u8 0, .int .u8 0, .int .u8 0, .int .u8 0, .int .u8 0, .int .u8 0, .int .u8 0, .int .u8 0, .int .u8 0, .int .u8 0, .int .u8 0, .int .u8 0, .int .u8 0, .int .u8 0, .int .u8 0, .int .u8 0, .int .u8 0] 23)) = y9 := ⟨_, rfl⟩
  have HBv : Hid (Below w.heap.size w wv) := Lib.hid (by rw [← hwv]; exact (((Below.refl _ _).alloc (by simp <;> omega) _).alloc (by simp <;> omega) _))
  have HSV : Hid (wv.heap.size = w.heap.size + 2) := Lib.hid (by rw [← hwv]; simp)
  have RA : Hid (wv.heap[w.heap.size]? = some (.cells #[.int .u8 0, .int .u8 0, .int .u8 0, .int .u8 0, .int .u8 0, .int .u8 0, .int .u8 0, .int .u8 0, .int .u8 0, .int .u8 0, .int .u8 0, .int .u8 0, .int .u8 0, .int .u8 0, .int .u8 0, .int .u8 0, .int .u8 0, .int .u8 0, .int .u8 0, .int .u8 0, .int .u8 0, .int .u8 0, .int .u8 0, .int .u8 0, .int .u8 0, .int .u8 0, .int .u8 0, .int .u8 0, .int .u8 0, .int .u8 0, .int .u8 0, .int .u8 0] 23 (0, 0))) := Lib.hid (by rw [← hwv]; exact (((Below.refl (w.alloc (.cells #[.int .u8 0, .int .u8 0, .int .u8 0, .int .u8 0, .int .u8 0, .int .u8 0, .int .u8 0, .int .u8 0, .int .u8 0, .int .u8 0, .int .u8 0, .int .u8 0, .int .u8 0, .int .u8 0, .int .u8 0, .int .u8 0, .int .u8 0, .int .u8 0, .int .u8 0, .int .u8 0, .int .u8 0, .int .u8 0, .int .u8 0, .int .u8 0, .int .u8 0, .int .u8 0, .int .u8 0, .int .u8 0, .int .u8 0, .int .u8 0, .int .u8 0, .int .u8 0] 23)).heap.size (w.alloc (.cells #[.int .u8 0, .int .u8 0, .int .u8 0, .int .u8 0, .int .u8 0, .int .u8 0, .int .u8 0, .int .u8 0, .int .u8 0, .int .u8 0, .int .u8 0, .int .u8 0, .int .u8 0, .int .u8 0, .int .u8 0, .int .u8 0, .int .u8 0, .int .u8 0, .int .u8 0, .int .u8 0, .int .u8 0, .int .u8 0, .int .u8 0, .int .u8 0, .int .u8 0, .int .u8 0, .int .u8 0, .int .u8 0, .int .u8 0, .int .u8 0, .int .u8 0, .int .u8 0] 23))).alloc (Nat.le_refl _) _).block w.heap.size (by simp <;> omega)).trans (heap_at _ _ _ (by simp <;> omega)))
  have RB : Hid (wv.heap[(w.heap.size + 1)]? = some (.cells #[.int .u8 0, .int .u8 0, .int .u8 0, .int .u8 0, .int .u8 0, .int .u8 0, .int .u8 0, .int .u8 0, .int .u8 0, .int .u8 0, .int .u8 0, .int .u8 0, .int .u8 0, .int .u8 0, .int .u8 0, .int .u8 0, .int .u8 0, .int .u8 0, .int .u8 0, .int .u8 0, .int .u8 0, .int .u8 0, .int .u8 0, .int .u8 0, .int .u8 0, .int .u8 0, .int .u8 0, .int .u8 0, .int .u8 0, .int .u8 0, .int .u8 0, .int .u8 0] 23 (0, 0))) := Lib.hid (by rw [← hwv]; exact heap_at _ _ _ (by simp <;> omega))
  have HWV := Lib.hid hwv
  have hsv := HSV.out
  have hpl := h.lt
  have hh := h.2
  have RP : Hid (wv.heap[p]? = some (.cells #[.string S, .int .i64 i, .nilIface, .bool true] 243 (0, 0))) := Lib.hid (h.below HBv.out).1
  have HROW : Hid (((#[.int .u8 0, .int .u8 0, .int .u8 0, .int .u8 0, .int .u8 0, .int .u8 0, .int .u8 0, .int .u8 0, .int .u8 0, .int .u8 0, .int .u8 0, .int .u8 0, .int .u8 0, .int .u8 0, .int .u8 0, .int .u8 0, .int .u8 0, .int .u8 0, .int .u8 0, .int .u8 0, .int .u8 0, .int .u8 0, .int .u8 0, .int .u8 0, .int .u8 0, .int .u8 0, .int .u8 0, .int .u8 0, .int .u8 0, .int .u8 0, .int .u8 0, .int .u8 0] : Array Value).toList.take 0 ++ Lib.byteCells s.data.toList ++ (#[.int .u8 0, .int .u8 0, .int .u8 0, .int .u8 0, .int .u8 0, .int .u8 0, .int .u8 0, .int .u8 0, .int .u8 0, .int .u8 0, .int .u8 0, .int .u8 0, .int .u8 0, .int .u8 0, .int .u8 0, .int .u8 0, .int .u8 0, .int .u8 0, .int .u8 0, .int .u8 0, .int .u8 0, .int .u8 0, .int .u8 0, .int .u8 0, .int .u8 0, .int .u8 0, .int .u8 0, .int .u8 0, .int .u8 0, .int .u8 0, .int .u8 0, .int .u8 0] : Array Value).toList.drop (0 + s.size)).toArray = vq) := Lib.hid (by
    rw [HS32.out, ← Hvq.out, ← hbs, List.take_zero, List.nil_append, List.drop_eq_nil_of_le (by decide), List.append_nil]
    rfl)
  have HTA : Hid (∀ w', But (fun k => k = p ∨ k = w.heap.size + 1) wv w' → w'.heap[p]? = some (.cells #[.string S, .int .i64 i, .nilIface, .bool true] 243 (0, 0)) → Calls Tryz.prog 177 #[.pointer (some ⟨p, 0, none⟩), .int .i64 32, .int .i64 i] w' fun ev w2 => ev = .returned (.string s) ∧ ROk p w2 S (i + 32) ∧ But (· = p) w' w2) := Lib.hid (fun w' hw hg => by
    have := take_yes p i 32 i S w' ⟨hg, hh⟩ hk (by omega)
    rw [hs] at this; exact this)
  have HRE := Lib.hid (ready_ok p i S wv (h.below HBv.out))
  rw [evq]
  clear h hwv evq hs 
  go_enter Tryz.func112, Tryz.ntmps112
  go_upto_region 2 with fail
  rw [HWV.out]
  go_wp2_with fail
  refine HRE.out.mono ?_
  rintro ev w1 ⟨rfl, rfl⟩
  go_upto_region 3 with fail
  refine wp_region_held_drew (S := But (fun k => k = p ∨ k = w.heap.size + 1) wv) (by kernel_rfl) (But.refl _ _).drew (fun hHeld => ?_)
  refine tk (i := 0) (v := ?v1) rfl ?y1 ?r1
  case y1 => (intro w hSw; (try dsimp only at hSw); go_simp; (try with_reducible rfl))
  try simp only [pu]
  refine tk (i := 1) (v := ?v2) rfl ?y2 ?r2
  case y2 => (intro w hSw; (try dsimp only at hSw); go_simp; (try with_reducible rfl))
  try simp only [pu]
  refine tk (i := 2) (v := ?v3) rfl ?y3 ?r3
  case y3 => (intro w hSw; (try dsimp only at hSw); go_simp; (try with_reducible rfl))
  try simp only [pu]
  refine tk (i := 3) (v := ?v4) rfl ?y4 ?r4
  case y4 => (intro w hSw; (try dsimp only at hSw); go_simp; (try with_reducible rfl))
  try simp only [pu]
  refine tk (i := 4) (v := ?v5) rfl ?y5 ?r5
  case y5 => (intro w hSw; (try dsimp only at hSw); go_simp; (try with_reducible rfl))
  try simp only [pu]
  refine wpAnyH_ready (rs := [5]) (by kernel_rfl) (by simp) ?_
  refine AllReadyH.cons (i := 5) rfl (fun K2 hK2 => ?_) AllReadyH.nil
  have z0 : wv.drew.cell? ⟨p, 1, none⟩ = some (.int .i64 i) := (cell_of_row wv.drew p 1 _ 243 (0, 0) (show wv.drew.heap[p]? = _ from RP.out)).trans rfl
  go_simp
  refine hK2.out _ _ ((But.refl (fun k => k = p ∨ k = w.heap.size + 1) wv).drew) (fun hHeld2 => ?_)
  clear hK2 K2
  try simp only [pu]
  refine wpAnyH_ready (rs := [6]) (by kernel_rfl) (by simp) ?_
  refine AllReadyH.cons (i := 6) rfl (fun K2 hK2 => ?_) AllReadyH.nil
  go_simp
  go_at_call 177
  refine (HTA.out wv.drew ((But.refl (fun k => k = p ∨ k = w.heap.size + 1) wv).drew) (show wv.drew.heap[p]? = _ from RP.out)).mono ?_
  rintro ev w701 ⟨rfl, hR9, b9⟩
  try go_wp2_with fail
  have Kw701 := Lib.hid (But.step ((But.refl (fun k => k = p ∨ k = w.heap.size + 1) wv).drew) b9 (fun k _ q => .inl q))
  have Tw701_0 := Lib.hid ((b9.same _ (Array.getElem?_eq_some_iff.1 (show wv.drew.heap[w.heap.size]? = _ from RA.out)).1 (by omega)).trans (show wv.drew.heap[w.heap.size]? = _ from RA.out))
  have Tw701_1 := Lib.hid ((b9.same _ (Array.getElem?_eq_some_iff.1 (show wv.drew.heap[(w.heap.size + 1)]? = _ from RB.out)).1 (by omega)).trans (show wv.drew.heap[(w.heap.size + 1)]? = _ from RB.out))
  have HR9 := Lib.hid (show RAftyes p w701 S i from hR9)
  clear hR9 b9
  refine hK2.out _ _ Kw701.out (fun hHeld2 => ?_)
  clear hK2 K2
  try simp only [pu]
  refine wpAnyH_ready (rs := [7]) (by kernel_rfl) (by simp) ?_
  refine AllReadyH.cons (i := 7) rfl (fun K2 hK2 => ?_) AllReadyH.nil
  rw [if_pos (by rfl)]
  refine wp_copy_row _ _ 138 9 rfl 5 Tryz.underlying138 (by kernel_rfl) (w.heap.size + 1) 32 32 rfl s rfl _ 23 Tw701_1.out (Nat.le_of_eq HS32.out) (by rw [HS32.out]; simp) ?_
  rw [HROW.out]
  obtain ⟨w702, hw702⟩ : ∃ x, w701.setRow (w.heap.size + 1) vq = x := ⟨_, rfl⟩
  obtain ⟨Kw702, Tw702_1, fw702⟩ := st_row Kw701.out hw702 (fun _ => .inr rfl) Tw701_1.out
  have Kw702 := Lib.hid Kw702
  have Tw702_1 := Lib.hid Tw702_1
  have Tw702_0 := Lib.hid (fw702 _ _ (by omega) Tw701_0.out)
  have HR9 : Hid (RAftyes p w702 S i) := Lib.hid (RAft_rowyes HR9.out (fun k x hk hx => fw702 k x hk hx) (by omega))
  clear fw702
  rw [hw702]
  clear hw702
  refine hK2.out _ _ Kw702.out (fun hHeld2 => ?_)
  clear hK2 K2
  try simp only [pu]
  refine wpAnyH_done (by kernel_rfl) ?_ _
  obtain ⟨w5, hw5⟩ : ∃ y9 : World, w702 = y9 := ⟨_, rfl⟩
  have KE : Hid (But (fun k => k = p ∨ k = w.heap.size + 1) wv w5) := Lib.hid (by rw [← hw5]; exact Kw702.out)
  have TA5 : Hid (w5.heap[w.heap.size]? = some (.cells #[.int .u8 0, .int .u8 0, .int .u8 0, .int .u8 0, .int .u8 0, .int .u8 0, .int .u8 0, .int .u8 0, .int .u8 0, .int .u8 0, .int .u8 0, .int .u8 0, .int .u8 0, .int .u8 0, .int .u8 0, .int .u8 0, .int .u8 0, .int .u8 0, .int .u8 0, .int .u8 0, .int .u8 0, .int .u8 0, .int .u8 0, .int .u8 0, .int .u8 0, .int .u8 0, .int .u8 0, .int .u8 0, .int .u8 0, .int .u8 0, .int .u8 0, .int .u8 0] 23 (0, 0))) := Lib.hid (by rw [← hw5]; exact Tw702_0.out)
  have TB5 : Hid (w5.heap[w.heap.size + 1]? = some (.cells vq 23 (0, 0))) := Lib.hid (by rw [← hw5]; exact Tw702_1.out)
  have HR5 : Hid (ROk p w5 S (i + 32)) := Lib.hid (by rw [← hw5]; exact HR9.out)
  rw [hw5]
  clear hw5 hHeld hHeld2
  go_wp2_with (first
    | (refine wpList_load_row rfl 23 _ rfl (w.heap.size + 1) rfl 23 vq (0, 0) _ TB5.out Tryz.underlying23 rfl Ivq.out ?_)
    | (refine wpList_store_row_any rfl 23 _ _ rfl w.heap.size vq rfl rfl 23 _ TA5.out Ivq.out (by rw [Zvq.out]; rfl) Ovq.out ?_; intro w6 hbN hgN hsN; have B6 := Lib.hid hbN; have R6 := Lib.hid hgN; clear hbN hgN hsN))
  refine bodyPost_ret (v := .agg vq) (results_cell_row rfl _ _ w.heap.size 23 vq (0, 0) _ rfl R6.out Tryz.underlying23 rfl Ivq.out) rfl ⟨rfl, ?_, ?_⟩
  · exact RAft_rowyes (i := i) HR5.out (fun k x hk hx => (B6.out.same k (Array.getElem?_eq_some_iff.1 hx).1 hk).trans hx) (by omega)
  · exact ((but_of p HBv.out).step KE.out (fun k hk q => by rcases q with q | q <;> omega)).step B6.out (fun k hk q => by omega)

def RAftno (p : Nat) (W : World) (S : ByteArray) (i : Nat) : Prop := RBad p W S
theorem RAft_rowno {{p : Nat}} {{w w' : World}} {{S : ByteArray}} {{i g : Nat}} (h : RAftno p w S i) (f : ∀ (k : Nat) (x : Obj), k ≠ g → w.heap[k]? = some x → w'.heap[k]? = some x) (hg : p ≠ g) : RAftno p w' S i := by
  obtain ⟨j, a, h⟩ := h
  exact ⟨j, a, f _ _ hg h.1, h.2⟩
set_option maxRecDepth 100000 in
set_option maxHeartbeats 8000000 in
theorem rhash_no (a : Nat → Addr) (B : Nat) (p i : Nat) (S : ByteArray) (w : World) (hE : Env B a w) (hpB : B ≤ p) (h : ROk p w S i) (hk : S.size < i + 32) :
    Calls Tryz.prog 112 #[.pointer (some ⟨p, 0, none⟩)] w fun ev w' => ev = .returned (hv zeroH) ∧ RBad p w' S ∧ But (· = p) w w' := by
  obtain ⟨vq, evq, Hvq, Zvq, Ivq, Ovq⟩ := row_of zeroH zeroH_length
  obtain ⟨wv, hwv⟩ : ∃ y9 : World, ((w.alloc (.cells #[.int .u8 0, .int .u8 0, .int .u8 0, .int .u8 0, .int .u8 0, .int .u8 0, .int .u8 0, .int .u8 0, .int .u8 0, .int .u8 0, .int .u8 0, .int .u8 0, .int .u8 0, .int .u8 0, .int .u8 0, .int .u8 0, .int .u8 0, .int .u8 0, .int .u8 0, .int .u8 0, .int .u8 0, .int .u8 0, .int .u8 0, .int .u8 0, .int .u8 0, .int .u8 0, .int .u8 0, .int .u8 0, .int .u8 0, .int .u8 0, .int .u8 0, .int .u8 0] 23)).alloc (.cells #[.int .u8 0, .int .u8 0, .int .u8 0, .int .u8 0, .int .u8 0, .int .u8 0, .int .u8 0, .int .u8 0, .int .u8 0, .int .u8 0, .int .u8 0, .int .u8 0, .int .u8 0, .int .u8 0, .int .u8 0, .int .u8 0, .int .u8 0, .int .u8 0, .int .u8 0, .int .u8 0, .int .u8 0, .int .u8 0, .int .u8 0, .int .u8 0, .int .u8 0, .int .u8 0, .int .u8 0, .int .u8 0, .int .u8 0, .int .u8 0, .int .u8 0, .int .u8 0] 23)) = y9 := ⟨_, rfl⟩
  have HBv : Hid (Below w.heap.size w wv) := Lib.hid (by rw [← hwv]; exact (((Below.refl _ _).alloc (by simp <;> omega) _).alloc (by simp <;> omega) _))
  have HSV : Hid (wv.heap.size = w.heap.size + 2) := Lib.hid (by rw [← hwv]; simp)
  have RA : Hid (wv.heap[w.heap.size]? = some (.cells #[.int .u8 0, .int .u8 0, .int .u8 0, .int .u8 0, .int .u8 0, .int .u8 0, .int .u8 0, .int .u8 0, .int .u8 0, .int .u8 0, .int .u8 0, .int .u8 0, .int .u8 0, .int .u8 0, .int .u8 0, .int .u8 0, .int .u8 0, .int .u8 0, .int .u8 0, .int .u8 0, .int .u8 0, .int .u8 0, .int .u8 0, .int .u8 0, .int .u8 0, .int .u8 0, .int .u8 0, .int .u8 0, .int .u8 0, .int .u8 0, .int .u8 0, .int .u8 0] 23 (0, 0))) := Lib.hid (by rw [← hwv]; exact (((Below.refl (w.alloc (.cells #[.int .u8 0, .int .u8 0, .int .u8 0, .int .u8 0, .int .u8 0, .int .u8 0, .int .u8 0, .int .u8 0, .int .u8 0, .int .u8 0, .int .u8 0, .int .u8 0, .int .u8 0, .int .u8 0, .int .u8 0, .int .u8 0, .int .u8 0, .int .u8 0, .int .u8 0, .int .u8 0, .int .u8 0, .int .u8 0, .int .u8 0, .int .u8 0, .int .u8 0, .int .u8 0, .int .u8 0, .int .u8 0, .int .u8 0, .int .u8 0, .int .u8 0, .int .u8 0] 23)).heap.size (w.alloc (.cells #[.int .u8 0, .int .u8 0, .int .u8 0, .int .u8 0, .int .u8 0, .int .u8 0, .int .u8 0, .int .u8 0, .int .u8 0, .int .u8 0, .int .u8 0, .int .u8 0, .int .u8 0, .int .u8 0, .int .u8 0, .int .u8 0, .int .u8 0, .int .u8 0, .int .u8 0, .int .u8 0, .int .u8 0, .int .u8 0, .int .u8 0, .int .u8 0, .int .u8 0, .int .u8 0, .int .u8 0, .int .u8 0, .int .u8 0, .int .u8 0, .int .u8 0, .int .u8 0] 23))).alloc (Nat.le_refl _) _).block w.heap.size (by simp <;> omega)).trans (heap_at _ _ _ (by simp <;> omega)))
  have RB : Hid (wv.heap[(w.heap.size + 1)]? = some (.cells #[.int .u8 0, .int .u8 0, .int .u8 0, .int .u8 0, .int .u8 0, .int .u8 0, .int .u8 0, .int .u8 0, .int .u8 0, .int .u8 0, .int .u8 0, .int .u8 0, .int .u8 0, .int .u8 0, .int .u8 0, .int .u8 0, .int .u8 0, .int .u8 0, .int .u8 0, .int .u8 0, .int .u8 0, .int .u8 0, .int .u8 0, .int .u8 0, .int .u8 0, .int .u8 0, .int .u8 0, .int .u8 0, .int .u8 0, .int .u8 0, .int .u8 0, .int .u8 0] 23 (0, 0))) := Lib.hid (by rw [← hwv]; exact heap_at _ _ _ (by simp <;> omega))
  have HWV := Lib.hid hwv
  have hsv := HSV.out
  have hpl := h.lt
  have hh := h.2
  have RP : Hid (wv.heap[p]? = some (.cells #[.string S, .int .i64 i, .nilIface, .bool true] 243 (0, 0))) := Lib.hid (h.below HBv.out).1
  have HQ0 : Hid (vq = #[.int .u8 0, .int .u8 0, .int .u8 0, .int .u8 0, .int .u8 0, .int .u8 0, .int .u8 0, .int .u8 0, .int .u8 0, .int .u8 0, .int .u8 0, .int .u8 0, .int .u8 0, .int .u8 0, .int .u8 0, .int .u8 0, .int .u8 0, .int .u8 0, .int .u8 0, .int .u8 0, .int .u8 0, .int .u8 0, .int .u8 0, .int .u8 0, .int .u8 0, .int .u8 0, .int .u8 0, .int .u8 0, .int .u8 0, .int .u8 0, .int .u8 0, .int .u8 0]) := Lib.hid (by rw [zeroH_v] at evq; cases evq; rfl)
  have HE := Lib.hid hE
  have HEB : Hid (B ≤ w.heap.size) := Lib.hid hE.laid.size
  have HEB2 : Hid (B ≤ wv.heap.size) := Lib.hid (by have := hE.laid.size; have := HSV.out; omega)
  have hB9 := hE.laid.size
  have HTA : Hid (∀ w', But (fun k => k = p ∨ k = w.heap.size + 1) wv w' → w'.heap[p]? = some (.cells #[.string S, .int .i64 i, .nilIface, .bool true] 243 (0, 0)) → Calls Tryz.prog 177 #[.pointer (some ⟨p, 0, none⟩), .int .i64 32, .int .i64 i] w' fun ev w2 => ev = .returned (.string ⟨#[]⟩) ∧ RBad p w2 S ∧ But (· = p) w' w2) := Lib.hid (fun w' hw hg => by
    exact take_no a B p i 32 i S w' (HE.out.below ((HBv.out.mono HEB.out).trans (But.to_below hw HEB2.out (fun k hk q => by rcases q with q | q <;> omega)))) ⟨hg, hh⟩ hk (by omega))
  have HRE := Lib.hid (ready_ok p i S wv (h.below HBv.out))
  rw [evq]
  clear h hwv evq hE 
  go_enter Tryz.func112, Tryz.ntmps112
  go_upto_region 2 with fail
  rw [HWV.out]
  go_wp2_with fail
  refine HRE.out.mono ?_
  rintro ev w1 ⟨rfl, rfl⟩
  go_upto_region 3 with fail
  refine wp_region_held_drew (S := But (fun k => k = p ∨ k = w.heap.size + 1) wv) (by kernel_rfl) (But.refl _ _).drew (fun hHeld => ?_)
  refine tk (i := 0) (v := ?v6) rfl ?y6 ?r6
  case y6 => (intro w hSw; (try dsimp only at hSw); go_simp; (try with_reducible rfl))
  try simp only [pu]
  refine tk (i := 1) (v := ?v7) rfl ?y7 ?r7
  case y7 => (intro w hSw; (try dsimp only at hSw); go_simp; (try with_reducible rfl))
  try simp only [pu]
  refine tk (i := 2) (v := ?v8) rfl ?y8 ?r8
  case y8 => (intro w hSw; (try dsimp only at hSw); go_simp; (try with_reducible rfl))
  try simp only [pu]
  refine tk (i := 3) (v := ?v9) rfl ?y9 ?r9
  case y9 => (intro w hSw; (try dsimp only at hSw); go_simp; (try with_reducible rfl))
  try simp only [pu]
  refine tk (i := 4) (v := ?v10) rfl ?y10 ?r10
  case y10 => (intro w hSw; (try dsimp only at hSw); go_simp; (try with_reducible rfl))
  try simp only [pu]
  refine wpAnyH_ready (rs := [5]) (by kernel_rfl) (by simp) ?_
  refine AllReadyH.cons (i := 5) rfl (fun K2 hK2 => ?_) AllReadyH.nil
  have z0 : wv.drew.cell? ⟨p, 1, none⟩ = some (.int .i64 i) := (cell_of_row wv.drew p 1 _ 243 (0, 0) (show wv.drew.heap[p]? = _ from RP.out)).trans rfl
  go_simp
  refine hK2.out _ _ ((But.refl (fun k => k = p ∨ k = w.heap.size + 1) wv).drew) (fun hHeld2 => ?_)
  clear hK2 K2
  try simp only [pu]
  refine wpAnyH_ready (rs := [6]) (by kernel_rfl) (by simp) ?_
  refine AllReadyH.cons (i := 6) rfl (fun K2 hK2 => ?_) AllReadyH.nil
  go_simp
  go_at_call 177
  refine (HTA.out wv.drew ((But.refl (fun k => k = p ∨ k = w.heap.size + 1) wv).drew) (show wv.drew.heap[p]? = _ from RP.out)).mono ?_
  rintro ev w703 ⟨rfl, hR9, b9⟩
  try go_wp2_with fail
  have Kw703 := Lib.hid (But.step ((But.refl (fun k => k = p ∨ k = w.heap.size + 1) wv).drew) b9 (fun k _ q => .inl q))
  have Tw703_0 := Lib.hid ((b9.same _ (Array.getElem?_eq_some_iff.1 (show wv.drew.heap[w.heap.size]? = _ from RA.out)).1 (by omega)).trans (show wv.drew.heap[w.heap.size]? = _ from RA.out))
  have Tw703_1 := Lib.hid ((b9.same _ (Array.getElem?_eq_some_iff.1 (show wv.drew.heap[(w.heap.size + 1)]? = _ from RB.out)).1 (by omega)).trans (show wv.drew.heap[(w.heap.size + 1)]? = _ from RB.out))
  have HR9 := Lib.hid (show RAftno p w703 S i from hR9)
  clear hR9 b9
  refine hK2.out _ _ Kw703.out (fun hHeld2 => ?_)
  clear hK2 K2
  try simp only [pu]
  refine wpAnyH_ready (rs := [7]) (by kernel_rfl) (by simp) ?_
  refine AllReadyH.cons (i := 7) rfl (fun K2 hK2 => ?_) AllReadyH.nil
  rw [if_pos (by rfl)]
  refine wp_copy_none _ _ 138 9 rfl 5 Tryz.underlying138 (by kernel_rfl) _ 32 32 rfl ⟨#[]⟩ rfl rfl ?_
  refine hK2.out _ _ Kw703.out (fun hHeld2 => ?_)
  clear hK2 K2
  try simp only [pu]
  refine wpAnyH_done (by kernel_rfl) ?_ _
  obtain ⟨w5, hw5⟩ : ∃ y9 : World, w703 = y9 := ⟨_, rfl⟩
  have KE : Hid (But (fun k => k = p ∨ k = w.heap.size + 1) wv w5) := Lib.hid (by rw [← hw5]; exact Kw703.out)
  have TA5 : Hid (w5.heap[w.heap.size]? = some (.cells #[.int .u8 0, .int .u8 0, .int .u8 0, .int .u8 0, .int .u8 0, .int .u8 0, .int .u8 0, .int .u8 0, .int .u8 0, .int .u8 0, .int .u8 0, .int .u8 0, .int .u8 0, .int .u8 0, .int .u8 0, .int .u8 0, .int .u8 0, .int .u8 0, .int .u8 0, .int .u8 0, .int .u8 0, .int .u8 0, .int .u8 0, .int .u8 0, .int .u8 0, .int .u8 0, .int .u8 0, .int .u8 0, .int .u8 0, .int .u8 0, .int .u8 0, .int .u8 0] 23 (0, 0))) := Lib.hid (by rw [← hw5]; exact Tw703_0.out)
  have TB5 : Hid (w5.heap[w.heap.size + 1]? = some (.cells vq 23 (0, 0))) := Lib.hid (by rw [← hw5, HQ0.out]; exact Tw703_1.out)
  have HR5 : Hid (RBad p w5 S) := Lib.hid (by rw [← hw5]; exact HR9.out)
  rw [hw5]
  clear hw5 hHeld hHeld2
  go_wp2_with (first
    | (refine wpList_load_row rfl 23 _ rfl (w.heap.size + 1) rfl 23 vq (0, 0) _ TB5.out Tryz.underlying23 rfl Ivq.out ?_)
    | (refine wpList_store_row_any rfl 23 _ _ rfl w.heap.size vq rfl rfl 23 _ TA5.out Ivq.out (by rw [Zvq.out]; rfl) Ovq.out ?_; intro w6 hbN hgN hsN; have B6 := Lib.hid hbN; have R6 := Lib.hid hgN; clear hbN hgN hsN))
  refine bodyPost_ret (v := .agg vq) (results_cell_row rfl _ _ w.heap.size 23 vq (0, 0) _ rfl R6.out Tryz.underlying23 rfl Ivq.out) rfl ⟨rfl, ?_, ?_⟩
  · exact RAft_rowno (i := i) HR5.out (fun k x hk hx => (B6.out.same k (Array.getElem?_eq_some_iff.1 hx).1 hk).trans hx) (by omega)
  · exact ((but_of p HBv.out).step KE.out (fun k hk q => by rcases q with q | q <;> omega)).step B6.out (fun k hk q => by omega)

end Go.Proofs.YtnpblpbcchminaaGreatDoor
