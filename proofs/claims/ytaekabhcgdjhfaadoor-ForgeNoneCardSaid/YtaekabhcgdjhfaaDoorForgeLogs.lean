import Derived.Test.YtaekabhcgdjhfaaDoorNaiveLog
import Derived.Test.YtaekabhcgdjhfaaDoorSameHashes
import Derived.Test.YtaekabhcgdjhfaaDoorTwinHash
import Derived.Deep.Cut
import Derived.Test.YtaekabhcgdjhfaaDoorNaiveGrown
/- cartularyref08.Log.Append. No condition. -/
namespace Go.Proofs.YtaekabhcgdjhfaaDoor
open Go.ChangeShapes Go.WideShapes Go.ChangeAt Go.RowKit
set_option linter.unusedVariables false
theorem plain4 (w : World) : Calls Tryd.prog 44 #[.int .i64 4] w fun ev w' => ev = .returned (.agg #[.int .i64 4, .int .i64 (-1)]) ∧ Below w.heap.size w w' := by
  go_enter Tryd.func44, Tryd.ntmps44
  go_wp2
  refine bodyPost_ret (v := .agg #[.int .i64 4, .int .i64 (-1)]) (by simp [results, Tryd.results44, go_sem]) rfl ⟨rfl, ?_⟩
  repeat (first | exact Below.refl _ _ | (refine below_drewN ?_) | (refine Below.drew ?_) | (refine Below.alloc ?_ (by simp; try omega) _) | (refine Below.setCell ?_ (by simp; try omega) _))
theorem results_tmp_row2 {P : Program} {fn : Func} {p u : Tmp} {ty : TypeId} (h : fn.results = #[.tmp u, .cell p ty]) (tmps : Array Value) (w : World) (g : Nat) (t : TypeId) (cs : Array Value) (fr : Nat × Nat) (d : TypeDesc)
    (hp : tmps.getD p undef = .pointer (some ⟨g, 0, none⟩)) (hg : w.heap[g]? = some (.cells cs t fr))
    (hu : P.underlying ty = some d) (hd : (match d with | .struct _ | .array _ _ => true | _ => false) = true) (hi : (P.info? ty).map (·.size) = some cs.size) (x : Value) (hx : tmps.getD u undef = x) :
    (results fn tmps).run P w = .ok (.tuple #[x, .agg cs]) w := by
  subst hx
  rw [Array.getD_eq_getD_getElem?] at hp
  simp only [results, h]
  simp [hp, asAddr, run_loadVar_row w g t ty cs fr d hg hu hd hi, Result.andThen]
/-- the reference's log at block b, its leaves' row the slice v -/
def RLogAt (base b : Nat) (v : Value) (L : List ByteArray) (w : World) : Prop :=
  LogOk L ∧ base ≤ b ∧ w.heap[b]? = some (.cells #[v] 62 (0, 0)) ∧ w.ownsRow base 9 1 v L.length (L.map Value.string) ∧ v.ownBlock ≠ some b
theorem RLogAt.lt {base b : Nat} {v : Value} {L : List ByteArray} {w : World} (h : RLogAt base b v L w) : b < w.heap.size := (Array.getElem?_eq_some_iff.1 h.2.2.1).1
theorem RLogAt.kept {base b : Nat} {v : Value} {L : List ByteArray} {w w' : World} (h : RLogAt base b v L w) (h1 : w'.heap[b]? = w.heap[b]?) (h2 : ∀ g, v.ownBlock = some g → w'.heap[g]? = w.heap[g]?) : RLogAt base b v L w' :=
  ⟨h.1, h.2.1, h1.trans h.2.2.1, own_kept h.2.2.2.1 h2, h.2.2.2.2⟩
theorem RLogAt.below {base b : Nat} {v : Value} {L : List ByteArray} {w w' : World} (h : RLogAt base b v L w) (hb : Below w.heap.size w w') : RLogAt base b v L w' :=
  h.kept (hb.block b h.lt) (fun g hg => hb.block g (h.2.2.2.1.lt g hg).2)
theorem RLogAt.c0 {base b : Nat} {v : Value} {L : List ByteArray} {w : World} (h : RLogAt base b v L w) : w.cell? ⟨b, 0, none⟩ = some v := by rw [cell_of_row w b 0 _ 62 (0, 0) h.2.2.1]; rfl
theorem RLogAt.f0 {base b : Nat} {v : Value} {L : List ByteArray} {w : World} (h : RLogAt base b v L w) : w.frozen? ⟨b, 0, none⟩ = false := frozen_of_row w b 0 _ 62 h.2.2.1
theorem Coll.setRow {b : Nat} {w w' : World} {v v' : Value} (h : Coll b w w' v v') {k : Nat} (hk : w.heap.size ≤ k) (x : Array Value) : Coll b w (w'.setRow k x) v v' := by
  have h0 := below_setRow (B := 0) (Below.refl 0 w') k x (by omega)
  exact ⟨h0.os.trans h.os, h0.tape.trans h.tape, h0.output.trans h.output, by rw [setRow_size]; exact h.size, fun j hj h1 h2 => by rw [setRow_other _ _ _ _ (by omega)]; exact h.same j hj h1 h2, h.blk⟩
theorem own_setRow {w : World} {base : Nat} {e : TypeId} {size : Nat} {v : Value} {n : Nat} {xs : List Value} (h : w.ownsRow base e size v n xs) {b : Nat} (hb : some b ≠ v.ownBlock) (u : Array Value) : (w.setRow b u).ownsRow base e size v n xs :=
  own_kept h (fun g hg => setRow_other _ _ _ _ (fun e => hb (by rw [hg, e])))
set_option maxRecDepth 100000 in
set_option maxHeartbeats 1000000 in
theorem rappend_bad (base b : Nat) (v : Value) (L : List ByteArray) (s : ByteArray) (w : World) (h : RLogAt base b v L w) (hbad : 65536 < s.size) :
    Calls Tryd.prog 27 #[.pointer (some ⟨b, 0, none⟩), .string s] w fun ev w' => ev = .returned (.tuple #[.int .u64 0, .agg #[.int .i64 4, .int .i64 (-1)]]) ∧ Below w.heap.size w w' := by
  have R0 : Hid ((w.alloc (.cells #[.int .i64 0, .int .i64 0] 66)).heap[w.heap.size]? = some (.cells #[.int .i64 0, .int .i64 0] 66 (0, 0))) := Lib.hid (heap_at _ _ _ rfl)
  have HB0 : Hid (Below w.heap.size w (w.alloc (.cells #[.int .i64 0, .int .i64 0] 66))) := Lib.hid ((Below.refl _ _).alloc (Nat.le_refl _) _)
  obtain ⟨wv, hwv⟩ : ∃ x, w.alloc (.cells #[.int .i64 0, .int .i64 0] 66) = x := ⟨_, rfl⟩
  rw [hwv] at R0 HB0
  have HWV := Lib.hid hwv
  have HSV : Hid (w.heap.size < wv.heap.size) := Lib.hid (by rw [← hwv]; simp)
  have hs : (65536 : Int) < (s.size : Int) := by omega
  clear h hbad hwv
  go_enter Tryd.func27, Tryd.ntmps27
  go_upto_region 1 with fail
  rw [HWV.out]
  go_wp2_with fail
  refine (plain4 wv).mono ?_
  rintro ev w1 ⟨rfl, b1⟩
  have R1 : Hid (w1.heap[w.heap.size]? = some (.cells #[.int .i64 0, .int .i64 0] 66 (0, 0))) := Lib.hid ((b1.block _ HSV.out).trans R0.out)
  have HB1 : Hid (Below w.heap.size w w1) := Lib.hid (HB0.out.trans (b1.mono (by have := HSV.out; omega)))
  clear b1
  go_wp2_with (refine wpList_store_row rfl 66 _ _ rfl w.heap.size #[.int .i64 4, .int .i64 (-1)] rfl rfl 66 _ R1.out (by kernel_rfl) rfl (by simp [Value.oneCell']) ?_)
  refine bodyPost_ret (v := .tuple #[.int .u64 0, .agg #[.int .i64 4, .int .i64 (-1)]]) (results_tmp_row2 rfl _ _ w.heap.size 66 #[.int .i64 4, .int .i64 (-1)] (0, 0) _ rfl (setRow_heap _ _ _ _ _ _ R1.out) Tryd.underlying66 rfl (by kernel_rfl) _ rfl) rfl ⟨rfl, ?_⟩
  exact below_setRow HB1.out _ _ (Nat.le_refl _)
set_option maxRecDepth 100000 in
set_option maxHeartbeats 1000000 in
theorem rappend_ok (base b : Nat) (v : Value) (L : List ByteArray) (s : ByteArray) (w : World) (h : RLogAt base b v L w) (h1 : s.size ≤ 65536) (h2 : L.length < 1048576) (hbw : base ≤ w.heap.size) :
    Calls Tryd.prog 27 #[.pointer (some ⟨b, 0, none⟩), .string s] w fun ev w' => ev = .returned (.tuple #[.int .u64 L.length, .agg #[.int .i64 0, .int .i64 0]]) ∧ ∃ v', RLogAt base b v' (L ++ [s]) w' ∧ Coll b w w' v v' := by
  obtain ⟨i0, hi, hz0, hz1, hz2⟩ := info_parts info_str
  obtain ⟨A, cap, rfl, hcap⟩ := own_shape h.2.2.2.1
  have R0 : Hid ((w.alloc (.cells #[.int .i64 0, .int .i64 0] 66)).heap[w.heap.size]? = some (.cells #[.int .i64 0, .int .i64 0] 66 (0, 0))) := Lib.hid (heap_at _ _ _ rfl)
  have hB0 : Below w.heap.size w (w.alloc (.cells #[.int .i64 0, .int .i64 0] 66)) := (Below.refl _ _).alloc (Nat.le_refl _) _
  have H0 := Lib.hid h
  have hlow : some w.heap.size ≠ (Value.slice A L.length cap).ownBlock := own_ne_new h.2.2.2.1 (Nat.le_refl _)
  have h' := h.below hB0
  obtain ⟨wv, hwv⟩ : ∃ x, w.alloc (.cells #[.int .i64 0, .int .i64 0] 66) = x := ⟨_, rfl⟩
  rw [hwv] at R0 hB0 h'
  have HWV := Lib.hid hwv
  have hSV : w.heap.size < wv.heap.size := by rw [← hwv]; simp
  have hbv : base ≤ wv.heap.size := by omega
  have c0 := h'.c0
  have f0 := h'.f0
  have hown := h'.2.2.2.1
  have hnb : some b ≠ (Value.slice A L.length cap).ownBlock := fun e => h.2.2.2.2 e.symm
  have hblt := h'.lt
  have hbw2 : b < w.heap.size := h.lt
  have H := Lib.hid h'
  have HB0 := Lib.hid hB0
  have HS := Lib.hid (And.intro h1 h2)
  obtain ⟨n, hn⟩ : ∃ n, L.length = n := ⟨_, rfl⟩
  have hd1 : decide ((65536 : Int) < (s.size : Int)) = false := by simp; omega
  have hd2 : decide ((1048576 : Int) ≤ (n : Int)) = false := by simp; omega
  have hd3 : decide ((n : Int) ≥ (1048576 : Int)) = false := by simp; omega
  rw [hn] at c0 hcap hown hnb h2 hlow
  have HN := Lib.hid hn
  have hwn : IntKind.u64.wrap (n : Int) = n := IntWalk.u64_in _ (by omega)
  rw [hn]
  have hn9 : n < 1048576 := h2
  have HLOW := Lib.hid hlow
  clear h h' hn h1 h2 hwv hB0 hlow
  go_enter Tryd.func27, Tryd.ntmps27
  go_upto_region 1 with fail
  rw [HWV.out]
  go_wp2_with (first
    | (at_builtin; refine wpList_append_lies _ rfl _ _ 22 rfl base 9 i0 (.string ⟨#[]⟩) 1 16 Tryd.underlying22 hi hz0 hz1 hz2 rfl (by decide) (.slice A n cap) _ _ rfl (hown.alloc _) ⟨wv.heap.size, 0, none⟩ 1 1 _ rfl rfl (news_new _ _) (by simp [Value.oneCell']) (by decide) (by unfold maxLen; omega) (by omega) (by simp; omega) _ rfl ?_; intro g3 cap3 w3 hown3 hgrow3 hat3 hlt3; have hl3 := hgrow3.cell (cell_alloc c0 _) hnb; have hf3 := (hgrow3.frozen_far ⟨b, 0, none⟩ (by simp; omega) hnb).trans (frozen_alloc f0 hblt _); have HX := Lib.hid (And.intro hown3 (And.intro hgrow3 hat3)); have hc3 := (show n + 1 ≤ cap3 by (obtain ⟨_, _, e, hc⟩ := own_shape hown3; cases e; exact hc)); have R3 : Hid (w3.heap[w.heap.size]? = some (.cells #[.int .i64 0, .int .i64 0] 66 (0, 0))) := Lib.hid ((hgrow3.block w.heap.size (by simp; omega) HLOW.out).trans ((((Below.refl _ wv).alloc (Nat.le_refl _) _).block w.heap.size hSV).trans R0.out)); clear hown3 hgrow3 hat3)
    | (refine wpList_store_row rfl 66 _ _ rfl w.heap.size #[.int .i64 0, .int .i64 0] rfl rfl 66 _ ((Below.heap_setCell w3 ⟨b, 0, none⟩ _ w.heap.size (Nat.ne_of_gt hbw2)).trans R3.out) (by kernel_rfl) rfl (by simp [Value.oneCell']) ?_))
  have RS : (w3.setCell ⟨b, 0, none⟩ (.slice (some ⟨g3, 0, none⟩) (n + 1) cap3)).heap[w.heap.size]? = some (.cells #[.int .i64 0, .int .i64 0] 66 (0, 0)) := (Below.heap_setCell w3 ⟨b, 0, none⟩ _ w.heap.size (Nat.ne_of_gt hbw2)).trans R3.out
  refine bodyPost_ret (v := .tuple #[.int .u64 n, .agg #[.int .i64 0, .int .i64 0]]) (results_tmp_row2 rfl _ _ w.heap.size 66 #[.int .i64 0, .int .i64 0] (0, 0) _ rfl (setRow_heap _ _ _ _ _ _ RS) Tryd.underlying66 rfl (by kernel_rfl) _ (by first | rfl | (simp; omega))) rfl ⟨rfl, .slice (some ⟨g3, 0, none⟩) (n + 1) cap3, ⟨H.out.1.snoc (by have := HN.out; omega) HS.out.1, H.out.2.1, ?_, ?_, ?_⟩, ?_⟩
  · have e1 : w3.heap[b]? = some (.cells #[.slice A n cap] 62 (0, 0)) := by
      rw [HX.out.2.1.block b (by simp; omega) hnb, ((Below.refl _ wv).alloc (Nat.le_refl _) _).block b hblt, H.out.2.2.1, HN.out]
    rw [setRow_other _ _ _ _ (by omega)]
    exact heap_setCell_same _ _ _ _ _ _ e1
  · refine own_congr (own_setRow (own_setCell HX.out.1 ?_ _) ?_ _) (by simp [HN.out]) (by simp)
    · intro q
      rcases HX.out.2.2 with e | e
      · exact hnb (by rw [q, e]; first | rfl | simp [Value.ownBlock])
      · simp [Value.ownBlock] at q; simp at e; omega
    · intro q
      rcases HX.out.2.2 with e | e
      · exact HLOW.out (by rw [q, e]; first | rfl | simp [Value.ownBlock])
      · simp [Value.ownBlock] at q; simp at e; omega
  · intro q
    rcases HX.out.2.2 with e | e
    · exact hnb (by rw [← q, e]; first | rfl | simp [Value.ownBlock])
    · simp [Value.ownBlock] at q; simp at e; omega
  · exact (((Coll.below HB0.out).trans (Coll.below ((Below.refl _ wv).alloc (Nat.le_refl _) _))).trans (Coll.append HX.out.2.1 (by simpa using HX.out.2.2) _ rfl)).setRow (Nat.le_refl _) _
end Go.Proofs.YtaekabhcgdjhfaaDoor

/- cartularylaw20.logs: the log of the texts that it takes. Condition: the package-level variables read as listed. -/
namespace Go.Proofs.YtaekabhcgdjhfaaDoor
open Go.ChangeShapes Go.WideShapes Go.ChangeAt Go.RowKit
set_option linter.unusedVariables false
/-- two logs lie apart -/
structure Sep (b b2 : Nat) (v v2 : Value) : Prop where
  bb : b ≠ b2
  v2b : some b ≠ v2.ownBlock
  vb2 : some b2 ≠ v.ownBlock
  vv : ∀ g, v.ownBlock = some g → v2.ownBlock ≠ some g
theorem Sep.l {b b2 : Nat} {v v2 v' : Value} {w w' : World} (h : Sep b b2 v v2) (c : Coll b w w' v v') (hb2 : b2 < w.heap.size) (hv2 : ∀ g, v2.ownBlock = some g → g < w.heap.size) : Sep b b2 v' v2 :=
  ⟨h.bb, h.v2b, fun e => (c.blk _ e.symm).elim (fun q => h.vb2 q.symm) (fun q => by omega), fun g hg e => (c.blk g hg).elim (fun q => h.vv g q e) (fun q => by have := hv2 g e; omega)⟩
theorem Sep.r {b b2 : Nat} {v v2 v2' : Value} {w w' : World} (h : Sep b b2 v v2) (c : Coll b2 w w' v2 v2') (hb : b < w.heap.size) (hv : ∀ g, v.ownBlock = some g → g < w.heap.size) : Sep b b2 v v2' :=
  ⟨h.bb, fun e => (c.blk _ e.symm).elim (fun q => h.v2b q.symm) (fun q => by omega), h.vb2, fun g hg e => (c.blk g e).elim (fun q => h.vv g hg q) (fun q => by have := hv g hg; omega)⟩
theorem RLogAt.coll {base b b2 : Nat} {v v' v2 : Value} {L : List ByteArray} {w w' : World} (h : RLogAt base b2 v2 L w) (c : Coll b w w' v v') (s : Sep b b2 v v2) : RLogAt base b2 v2 L w' :=
  h.kept (c.same b2 h.lt (fun e => s.bb e.symm) s.vb2) (fun g hg => c.same g (h.2.2.2.1.lt g hg).2 (fun e => s.v2b (by rw [hg, e])) (fun e => s.vv g e.symm hg))
theorem LogAt.coll {base b b2 : Nat} {v v2 v2' : Value} {L : List ByteArray} {w w' : World} (h : LogAt base b v L w) (c : Coll b2 w w' v2 v2') (s : Sep b b2 v v2) : LogAt base b v L w' :=
  h.kept (c.same b h.lt s.bb s.v2b) (fun g hg => c.same g (h.2.2.2.1.lt g hg).2 (fun e => s.vb2 (by rw [hg, e])) (fun e => s.vv g hg e.symm))
set_option maxRecDepth 100000 in
set_option maxHeartbeats 4000000 in
theorem logs20_any (a : Nat → Addr) (B : Nat) (D : List ByteArray) (A : Option Addr) (n c : Nat) (w : World) (hE : Env B a w) (h : SIn w A n c D) (hn : n ≤ 1048576) :
    Calls Tryd.prog 9 #[.slice A n c] w fun ev w' => ∃ b v b2, ev = .returned (.tuple #[.pointer (some ⟨b, 0, none⟩), .pointer (some ⟨b2, 0, none⟩), .bool true]) ∧ LogAt w.heap.size b v (keptL D) w' ∧ Below w.heap.size w w' := by
  have HE := Lib.hid hE
  have HD := Lib.hid h
  obtain ⟨vz, evz, HVZ, Zvz, Ivz, Ovz⟩ := fault_of 0
  obtain ⟨vf, evf, HVF, Zvf, Ivf, Ovf⟩ := fault_of 4
  have SAME0 : Hid (∀ w, Env B a w → Calls Tryd.prog 28 #[.nilIface, .agg vz] w fun ev w' => ev = .returned (.bool true) ∧ Below w.heap.size w w') := Lib.hid (fun w h => by rw [← evz]; exact same_fault a B 0 w h.laid (by omega))
  have SAME4 : Hid (∀ w, Env B a w → Calls Tryd.prog 28 #[.iface 169 (.pointer (some (a 4))), .agg vf] w fun ev w' => ev = .returned (.bool true) ∧ Below w.heap.size w w') := Lib.hid (fun w h => by rw [← evf]; exact same_fault a B 4 w h.laid (by omega))
  clear hE h evz evf
  go_enter Tryd.func9, Tryd.ntmps9
  go_wp2_with fail
  refine (new_log w.heap.size _ (Nat.le_refl _)).mono ?_
  rintro e w1 ⟨rfl, hL1, hB1⟩
  have hb : w.heap.size < w1.heap.size := hL1.lt
  have HR1 : Hid (RLogAt w.heap.size w1.heap.size (.slice none 0 0) [] (w1.alloc (.cells #[.slice none 0 0] 62))) := Lib.hid ⟨LogOk.nil, by omega, heap_at _ _ _ rfl, World.ownsRow_nil _ _ _ _, by simp [Value.ownBlock]⟩
  have HL1 : Hid (LogAt w.heap.size w.heap.size (.slice none 0 0) [] (w1.alloc (.cells #[.slice none 0 0] 62))) := Lib.hid (hL1.alloc _)
  have HB1 : Hid (Below w.heap.size w (w1.alloc (.cells #[.slice none 0 0] 62))) := Lib.hid (hB1.trans (((Below.refl _ _).alloc (Nat.le_refl _) _).mono hB1.size))
  have HP1 : Hid (Sep w.heap.size w1.heap.size (.slice none 0 0) (.slice none 0 0)) := Lib.hid ⟨by omega, by simp [Value.ownBlock], by simp [Value.ownBlock], fun g hg => by simp [Value.ownBlock] at hg⟩
  obtain ⟨wm, hwm⟩ : ∃ z, w1.alloc (.cells #[.slice none 0 0] 62) = z := ⟨_, rfl⟩
  rw [hwm] at HR1 HL1 HB1
  have HWM := Lib.hid hwm
  obtain ⟨b, hbb⟩ : ∃ b, w.heap.size = b := ⟨_, rfl⟩
  obtain ⟨b2, hb2⟩ : ∃ b, w1.heap.size = b := ⟨_, rfl⟩
  have HBB := Lib.hid hbb
  rw [hb2] at HR1 HP1
  have HP1 : Hid (Sep b b2 (.slice none 0 0) (.slice none 0 0)) := Lib.hid (by rw [← hbb]; exact HP1.out)
  have HL1 : Hid (LogAt w.heap.size b (.slice none 0 0) [] wm) := Lib.hid (by rw [← hbb]; exact HL1.out)
  rw [hbb]
  clear hL1 hB1 hb hbb
  go_upto_region 3 with fail
  (try rw [HWM.out, hb2])
  clear hwm hb2
  go_wp2_with fail
  go_loopw [7] (fun i wr => ∃ (k : Nat) (v v2 : Value), k ≤ n ∧ i = .int .i64 k ∧ Hid (LogAt w.heap.size b v (keptL (D.take k)) wr) ∧ Hid (RLogAt w.heap.size b2 v2 (keptL (D.take k)) wr) ∧ Hid (Sep b b2 v v2) ∧ Hid (Below w.heap.size w wr)) (fun i _ => n - (intOf i).toNat)
  case atStart => exact ⟨0, .slice none 0 0, .slice none 0 0, Nat.zero_le _, rfl, Lib.hid (by unfold keptL; simpa using HL1.out), Lib.hid (by unfold keptL; simpa using HR1.out), HP1, HB1⟩
  case round =>
    obtain ⟨k, v, v2, hk, rfl, HL, HR, HP, HB⟩ := hrel
    by_cases hlt : k < n
    · obtain ⟨s, hs⟩ : ∃ s, D[k]? = some s := ⟨_, List.getElem?_eq_getElem (by have := HD.out.1; omega)⟩
      obtain ⟨g, o, rfl, hc0, hg, hsz⟩ := HD.out.at hs
      have hc := cell_below HB.out hc0 hg
      have i0 : (0 : Int) ≤ k := by omega
      have i1 : (k : Int) < n := by omega
      have hsl : (s.size : Int) ≤ 140737488355328 := by omega
      by_cases hs6 : s.size ≤ 65536
      · have hs7 : decide ((65536 : Int) < (s.size : Int)) = false := by simp; omega
        have HS := Lib.hid (keptL_hit hs hs6)
        have HS6 := Lib.hid hs6
        have HC0 := Lib.hid (And.intro hc0 hg)
        have HKL := Lib.hid (keptL_len D k)
        obtain ⟨K, hK⟩ : ∃ K, keptL (D.take k) = K := ⟨_, rfl⟩
        rw [hK] at HL HR HS HKL
        obtain ⟨q, hq⟩ : ∃ q, K.length = q := ⟨_, rfl⟩
        have HQ := Lib.hid hq
        rw [hq] at HKL
        have hq9 : q < 1048576 := by have := HKL.out; omega
        clear hs hs6 hc0 hg hK hq
        go_wp2_with fail
        refine (append_ok w.heap.size b v K s wr HL.out HS6.out (by have := HQ.out; omega) HB.out.size).mono ?_
        rintro e w2 ⟨rfl, v', hL2, hC2⟩
        rw [HQ.out]
        have hR2 := HR.out.coll hC2 HP.out
        have hP2 := HP.out.l hC2 HR.out.lt (fun g hg => (HR.out.2.2.2.1.lt g hg).2)
        have HL2 := Lib.hid hL2
        have HR2 := Lib.hid hR2
        have HP2 := Lib.hid hP2
        have HB2 := Lib.hid (HB.out.trans (hC2.below_of HL.out.2.1 HB.out.size HL.out.own_ge))
        clear hL2 hR2 hP2 hC2
        have hc2 := cell_below HB2.out HC0.out.1 HC0.out.2
        
        go_wp2_with fail
        refine (rappend_ok w.heap.size b2 v2 K s w2 HR2.out HS6.out (by have := HQ.out; omega) HB2.out.size).mono ?_
        rintro e w3 ⟨rfl, v2', hR3, hC3⟩
        rw [HQ.out]
        have hL3 := HL2.out.coll hC3 HP2.out
        have hP3 := HP2.out.r hC3 HL2.out.lt (fun g hg => (HL2.out.2.2.2.1.lt g hg).2)
        have HL3 := Lib.hid hL3
        have HR3 := Lib.hid hR3
        have HP3 := Lib.hid hP3
        have HB3 := Lib.hid (HB2.out.trans (hC3.below_of HR2.out.2.1 HB2.out.size (fun k hk => (HR2.out.2.2.2.1.lt k hk).1)))
        clear hL3 hR3 hP3 hC3 hc2
        go_upto_region 8 with (refine wpList_store_row_any rfl 66 _ _ rfl w3.heap.size vz rfl (by rw [HVZ.out]; rfl) 66 _ (heap_at _ _ _ rfl) Ivz.out (by rw [Zvz.out]; rfl) Ovz.out ?_; intro w4 hb4 hg4 hs4; have B4 := Lib.hid hb4; have RF4 := Lib.hid hg4; clear hb4 hg4 hs4)
        have B34 : Hid (Below w3.heap.size w3 w4) := Lib.hid (((Below.refl _ _).alloc (Nat.le_refl _) _).trans (B4.out.to_below (by simp) (fun k hk q => by omega)))
        have HB4 : Hid (Below w.heap.size w w4) := Lib.hid (HB3.out.trans (B34.out.mono HB3.out.size))
        go_wp2_with (first | (refine wpList_load_row_g rfl 66 _ rfl w3.heap.size rfl 66 vz (0, 0) _ RF4.out Tryd.underlying66 rfl Ivz.out ?_) | (go_at_call 28; refine (SAME0.out w4 (HE.out.step HB4.out)).mono ?_; rintro ev w5 ⟨rfl, b5⟩; have B5 := Lib.hid b5; clear b5))
        go_roundw
        case rel => exact ⟨k + 1, v', v2', by omega, by go_num, Lib.hid (by rw [HS.out]; exact (HL3.out.below B34.out).below B5.out), Lib.hid (by rw [HS.out]; exact (HR3.out.below B34.out).below B5.out), HP3, Lib.hid (HB4.out.trans (B5.out.mono HB4.out.size))⟩
        case measure => simp [intOf]; omega
      · have hs7 : (65536 : Int) < (s.size : Int) := by omega
        have HS := Lib.hid (keptL_miss hs hs6)
        have HS6 := Lib.hid hs6
        have HC0 := Lib.hid (And.intro hc0 hg)
        have HKL := Lib.hid (keptL_len D k)
        obtain ⟨K, hK⟩ : ∃ K, keptL (D.take k) = K := ⟨_, rfl⟩
        rw [hK] at HL HR HS HKL
        obtain ⟨q, hq⟩ : ∃ q, K.length = q := ⟨_, rfl⟩
        have HQ := Lib.hid hq
        rw [hq] at HKL
        have hq9 : q < 1048576 := by have := HKL.out; omega
        clear hs hs6 hc0 hg hK hq
        go_wp2_with fail
        refine (append_bad a B w.heap.size b v K s wr (HE.out.step HB.out) HL.out (.inl (by have := HS6.out; omega))).mono ?_
        rintro e w2 ⟨rfl, hb2⟩
        have hC2 : Coll b wr w2 v v := Coll.below hb2; have hL2 := HL.out.below hb2; obtain ⟨v', hv'⟩ : ∃ x, v = x := ⟨_, rfl⟩; rw [hv'] at hL2; have hC2 : Coll b wr w2 v v' := by rw [← hv']; exact hC2
        have hR2 := HR.out.coll hC2 HP.out
        have hP2 := HP.out.l hC2 HR.out.lt (fun g hg => (HR.out.2.2.2.1.lt g hg).2)
        have HL2 := Lib.hid hL2
        have HR2 := Lib.hid hR2
        have HP2 := Lib.hid hP2
        have HB2 := Lib.hid (HB.out.trans (hC2.below_of HL.out.2.1 HB.out.size HL.out.own_ge))
        clear hL2 hR2 hP2 hC2 hb2 hv'
        have hc2 := cell_below HB2.out HC0.out.1 HC0.out.2
        unfold errV
        go_wp2_with fail
        refine (rappend_bad w.heap.size b2 v2 K s w2 HR2.out (by have := HS6.out; omega)).mono ?_
        rintro e w3 ⟨rfl, hb3⟩
        have hC3 : Coll b2 w2 w3 v2 v2 := Coll.below hb3; have hR3 := HR2.out.below hb3; obtain ⟨v2', hv2'⟩ : ∃ x, v2 = x := ⟨_, rfl⟩; rw [hv2'] at hR3; have hC3 : Coll b2 w2 w3 v2 v2' := by rw [← hv2']; exact hC3
        have hL3 := HL2.out.coll hC3 HP2.out
        have hP3 := HP2.out.r hC3 HL2.out.lt (fun g hg => (HL2.out.2.2.2.1.lt g hg).2)
        have HL3 := Lib.hid hL3
        have HR3 := Lib.hid hR3
        have HP3 := Lib.hid hP3
        have HB3 := Lib.hid (HB2.out.trans (hC3.below_of HR2.out.2.1 HB2.out.size (fun k hk => (HR2.out.2.2.2.1.lt k hk).1)))
        clear hL3 hR3 hP3 hC3 hc2 hb3 hv2'
        go_upto_region 8 with (refine wpList_store_row_any rfl 66 _ _ rfl w3.heap.size vf rfl (by rw [HVF.out]; rfl) 66 _ (heap_at _ _ _ rfl) Ivf.out (by rw [Zvf.out]; rfl) Ovf.out ?_; intro w4 hb4 hg4 hs4; have B4 := Lib.hid hb4; have RF4 := Lib.hid hg4; clear hb4 hg4 hs4)
        have B34 : Hid (Below w3.heap.size w3 w4) := Lib.hid (((Below.refl _ _).alloc (Nat.le_refl _) _).trans (B4.out.to_below (by simp) (fun k hk q => by omega)))
        have HB4 : Hid (Below w.heap.size w w4) := Lib.hid (HB3.out.trans (B34.out.mono HB3.out.size))
        go_wp2_with (first | (refine wpList_load_row_g rfl 66 _ rfl w3.heap.size rfl 66 vf (0, 0) _ RF4.out Tryd.underlying66 rfl Ivf.out ?_) | (go_at_call 28; refine (SAME4.out w4 (HE.out.step HB4.out)).mono ?_; rintro ev w5 ⟨rfl, b5⟩; have B5 := Lib.hid b5; clear b5))
        go_roundw
        case rel => exact ⟨k + 1, v', v2', by omega, by go_num, Lib.hid (by rw [HS.out]; exact (HL3.out.below B34.out).below B5.out), Lib.hid (by rw [HS.out]; exact (HR3.out.below B34.out).below B5.out), HP3, Lib.hid (HB4.out.trans (B5.out.mono HB4.out.size))⟩
        case measure => simp [intOf]; omega
    · obtain rfl : n = k := by omega
      have HK : Hid (D.take n = D) := Lib.hid (List.take_of_length_le (by have := HD.out.1; omega))
      rw [HK.out] at HL
      go_wp2
      refine bodyPost_ret (v := .tuple #[.pointer (some ⟨b, 0, none⟩), .pointer (some ⟨b2, 0, none⟩), .bool true]) (by simp [results, Tryd.results9, go_sem]) rfl ⟨b, v, b2, rfl, HL.out, HB.out⟩
end Go.Proofs.YtaekabhcgdjhfaaDoor

