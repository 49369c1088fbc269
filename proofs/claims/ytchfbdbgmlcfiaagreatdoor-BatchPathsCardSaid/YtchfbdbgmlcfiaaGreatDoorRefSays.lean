import Derived.Test.YtchfbdbgmlcfiaaGreatDoorSameHashes
import Derived.Test.YtchfbdbgmlcfiaaGreatDoorHashAid
import Derived.BigRegion
import Derived.Deep.DeepCutAuto
import Derived.Test.YtchfbdbgmlcfiaaGreatDoorLen64
import Derived.Test.YtchfbdbgmlcfiaaGreatDoorRefNode
import Derived.Test.YtchfbdbgmlcfiaaGreatDoorRefPath
import Derived.Test.YtchfbdbgmlcfiaaGreatDoorNotePlain
import Derived.Test.YtchfbdbgmlcfiaaGreatDoorBatchNode
/- cartularyref19.Given.says: what is said of a stretch outside. No condition. -/
namespace Go.Proofs.YtchfbdbgmlcfiaaGreatDoor
open Go.ChangeShapes Go.WideShapes Go.ChangeAt Go.RowKit
set_option linter.unusedVariables false
/-- what is handed in, and how many hashes of the proof were taken -/
def GAt (w : World) (W : Nat) (x : Int) (lv pv : Value) (at_ : Nat) : Prop := w.heap[W]? = some (.cells #[.int .u64 x, lv, pv, .int .i64 at_] 97 (0, 0))
theorem gr_setRow_same {a w : World} {b : Nat} {v : Array Value} {t : TypeId} (h : Gr a w) (hr : a.heap[b]? = some (.cells v t (0, 0))) : Gr a (w.setRow b v) := by
  have hb := (Array.getElem?_eq_some_iff.1 hr).1
  have h0 := below_setRow (B := 0) (Below.refl 0 w) b v (by omega)
  refine ⟨h0.os.trans h.os, h0.tape.trans h.tape, h0.output.trans h.output, by rw [setRow_size]; exact h.size, fun k hk => ?_⟩
  by_cases e : k = b
  · subst e; rw [setRow_heap _ _ _ _ _ _ ((h.block k hk).trans hr), hr]
  · rw [setRow_other _ _ _ _ e]; exact h.block k hk
theorem results_row_tmp_row {P : Program} {fn : Func} {p u q : Tmp} {ty : TypeId} (h : fn.results = #[.cell p ty, .tmp u, .cell q ty]) (tmps : Array Value) (w : World) (g g2 : Nat) (t t2 : TypeId) (cs cs2 : Array Value) (fr fr2 : Nat × Nat) (d : TypeDesc)
    (hp : tmps.getD p undef = .pointer (some ⟨g, 0, none⟩)) (hg : w.heap[g]? = some (.cells cs t fr)) (hp2 : tmps.getD q undef = .pointer (some ⟨g2, 0, none⟩)) (hg2 : w.heap[g2]? = some (.cells cs2 t2 fr2))
    (hu : P.underlying ty = some d) (hd : (match d with | .struct _ | .array _ _ => true | _ => false) = true) (hi : (P.info? ty).map (·.size) = some cs.size) (hi2 : (P.info? ty).map (·.size) = some cs2.size) (x : Value) (hx : tmps.getD u undef = x) :
    (results fn tmps).run P w = .ok (.tuple #[.agg cs, x, .agg cs2]) w := by
  subst hx
  rw [Array.getD_eq_getD_getElem?] at hp hp2
  simp only [results, h]
  simp [Sem.run_bind, hp, hp2, asAddr, run_loadVar_row w g t ty cs fr d hg hu hd hi, run_loadVar_row w g2 t2 ty cs2 fr2 d hg2 hu hd hi2, Result.andThen]
theorem eq_span (a b c d : Int) (w : World) : (Op.equalIn 10000 101 (.agg #[.int .u64 a, .int .u64 b]) (.agg #[.int .u64 c, .int .u64 d])).run Tryz.prog w = .ok (a == c && b == d) w := by
  rw [show (10000 : Nat) = 9999 + 1 from rfl, run_equalIn_agg w 9999 101 _ _ (by kernel_rfl) (by kernel_rfl)]
  simp only [Program.fieldsOf, Tryz.underlying101]
  go_simp
  by_cases h1 : a = c <;> by_cases h2 : b = d <;> simp [h1, h2]
/-- what is said of a stretch: its hash, whether the one that is asked for was met, that one's hash -/
def saidV (h : List UInt8) (o : Option (List UInt8)) : Value := .tuple #[hv h, .bool o.isSome, hv (o.getD zeroH)]
theorem gat_end {w wt w' : World} {W : Nat} {x : Int} {lv pv : Value} {k : Nat} (hG : GAt wt W x lv pv k) (hB : But (· = W) w wt) (hW : W < w.heap.size) (h : But (fun k => w.heap.size ≤ k) wt w') : GAt w' W x lv pv k ∧ But (· = W) w w' :=
  ⟨(h.same W (by have := hB.size; omega) (by omega)).trans hG, hB.step h (fun i hi q => by omega)⟩

set_option maxRecDepth 100000 in
set_option maxHeartbeats 4000000 in
theorem rsays_out (W g o n cap k m lcap : Nat) (lA : Option Addr) (x b e p q : Int) (ph : List UInt8) (w : World) (hW : GAt w W x (.slice lA m lcap) (.slice (some ⟨g, o, none⟩) n cap) k) (hx0 : 0 ≤ x) (hb : 0 ≤ b) (he : b < e) (hem : e ≤ 9223372036854775808)
    (hcase : e ≤ x ∨ (x < e ∧ x + m ≤ b)) (hk : k < n) (hn : n ≤ 9223372036854775807) (hp : ph.length = 32) (hr : w.rangeAt g (o + k * 32) (bytesV ph)) :
    Calls Tryz.prog 29 #[.pointer (some ⟨W, 0, none⟩), .agg #[.int .u64 b, .int .u64 e], .agg #[.int .u64 p, .int .u64 q]] w fun ev w' => ev = .returned (saidV ph (if b = p ∧ e = q then some ph else none)) ∧ GAt w' W x (.slice lA m lcap) (.slice (some ⟨g, o, none⟩) n cap) (k + 1) ∧ But (· = W) w w' := by
  have hgl := rangeAt_lt hr (by intro q; have := congrArg List.length q; rw [bytesV_length, hp] at this; simp at this)
  obtain ⟨vp, evp, Hvp, Zvp, Ivp, Ovp⟩ := row_of ph hp
  obtain ⟨pp, hpp⟩ : ∃ s, bytesV ph = s := ⟨_, rfl⟩
  have PV : Hid (pp.toArray = vp) := Lib.hid (by rw [← hpp]; exact Hvp.out)
  have IP : Hid ((Tryz.prog.info? 75).map (·.size) = some pp.length) := Lib.hid (by rw [← hpp, bytesV_length, hp]; kernel_rfl)
  have KR0 : Hid (∀ w', Below w.heap.size w w' → w'.rangeAt g (o + k * 32) pp) := Lib.hid (fun w' hb => by rw [← hpp]; exact rangeAt_below hb hr hgl)
  have EVP := Lib.hid evp
  have cw0 : w.cell? ⟨W, 0, none⟩ = some (.int .u64 x) := by rw [cell_of_row w W 0 _ 97 (0, 0) hW]; rfl
  have cw1 : w.cell? ⟨W, 1, none⟩ = some (.slice lA m lcap) := by rw [cell_of_row w W 1 _ 97 (0, 0) hW]; rfl
  have cw2 : w.cell? ⟨W, 2, none⟩ = some (.slice (some ⟨g, o, none⟩) n cap) := by rw [cell_of_row w W 2 _ 97 (0, 0) hW]; rfl
  have cw3 : w.cell? ⟨W, 3, none⟩ = some (.int .i64 k) := by rw [cell_of_row w W 3 _ 97 (0, 0) hW]; rfl
  clear hgl hr hpp hp evp
  have hbx : (Tryz.prog.info? 101).map (·.size) = some 2 := by kernel_rfl
  obtain ⟨vz, evz, Hvz, Zvz, Ivz, Ovz⟩ := row_of zeroH zeroH_length
  rw [zeroH_v] at evz
  obtain ⟨wv, hwv⟩ : ∃ x, (((w.alloc (.cells #[.int .u64 b, .int .u64 e] 101)).alloc (.cells #[.int .u64 p, .int .u64 q] 101)).alloc (.cells (List.replicate 32 (Value.int .u8 0)).toArray 75)).alloc (.cells (List.replicate 32 (Value.int .u8 0)).toArray 75) = x := ⟨_, rfl⟩
  have hBv : Below w.heap.size w wv := by rw [← hwv]; exact ((((Below.refl _ _).alloc (Nat.le_refl _) _).alloc (by simp) _).alloc (by simp; omega) _).alloc (by simp; omega) _
  have hsv : wv.heap.size = w.heap.size + 1 + 1 + 1 + 1 := by rw [← hwv]; simp
  have hg3 : wv.heap[(w.heap.size + 1 + 1 + 1)]? = some (.cells vz 75 (0, 0)) := by rw [← hwv, ← Value.agg.inj evz]; exact heap_at _ _ _ (by simp)
  have hg2 : wv.heap[(w.heap.size + 1 + 1)]? = some (.cells vz 75 (0, 0)) := by rw [← hwv, ← Value.agg.inj evz, ((Below.refl _ _).alloc (Nat.le_refl _) _).block _ (by simp)]; exact heap_at _ _ _ (by simp)
  have hg1 : wv.heap[w.heap.size + 1]? = some (.cells #[.int .u64 p, .int .u64 q] 101 (0, 0)) := by
    rw [← hwv, ((((Below.refl _ _).alloc (Nat.le_refl _) _).alloc (by simp) _)).block _ (by simp)]; exact heap_at _ _ _ (by simp)
  have hg0 : wv.heap[w.heap.size]? = some (.cells #[.int .u64 b, .int .u64 e] 101 (0, 0)) := by
    rw [← hwv, (((((Below.refl _ _).alloc (Nat.le_refl _) _).alloc (by simp) _)).alloc (by simp; try omega) _).block _ (by simp; try omega)]; exact heap_at _ _ _ rfl
  have HBv := Lib.hid hBv
  have HWV := Lib.hid hwv
  simp only [List.replicate, List.toArray] at HWV
  have HSV := Lib.hid hsv
  have G0 := Lib.hid hg0
  have G1 := Lib.hid hg1
  have G2 := Lib.hid hg2
  have G3 := Lib.hid hg3
  have EVZ := Lib.hid evz
  have hWl : W < w.heap.size := (Array.getElem?_eq_some_iff.1 hW).1
  have HW := Lib.hid hW
  have HWL := Lib.hid hWl
  clear hwv hBv hsv hg0 hg1 hg2 hg3 evz hW hWl
  have c0 := cell_below HBv.out cw0 HWL.out
  have c1 := cell_below HBv.out cw1 HWL.out
  have C23 := Lib.hid (And.intro cw2 cw3)
  have s0 : wv.cell? ⟨w.heap.size, 0, none⟩ = some (.int .u64 b) := by rw [cell_of_row wv w.heap.size 0 _ 101 (0, 0) ((Below.refl wv.heap.size wv).block _ (by have := HSV.out; omega) |>.trans G0.out)]; rfl
  have s1 : wv.cell? ⟨w.heap.size, 1, none⟩ = some (.int .u64 e) := by rw [cell_of_row wv w.heap.size 1 _ 101 (0, 0) ((Below.refl wv.heap.size wv).block _ (by have := HSV.out; omega) |>.trans G0.out)]; rfl
  have hsw : w.heap.size < wv.heap.size := by have := HSV.out; omega
  have hWv : W < wv.heap.size := by have := HWL.out; omega
  have HC := Lib.hid hcase
  have hm9 : (m : Int) < 18446744073709551616 ∨ (18446744073709551616 : Int) ≤ m := by omega
  clear cw0 cw1 cw2 cw3
  rcases hcase with hd0 | ⟨hd1, hd2⟩
  · have hd : decide (e ≤ x) = true := by simp; exact hd0
    clear hm9
    go_enter Tryz.func29, Tryz.ntmps29
    go_upto_region 1 with fail
    rw [HWV.out]
    go_quiet (fail)
    obtain ⟨wq, hwq⟩ : ∃ wq, wv.drewN nq = wq := ⟨_, rfl⟩
    have hqv : ∀ j : Nat, wq.heap[j]? = wv.heap[j]? := fun j => by rw [← hwq]; rfl
    have HBq : Hid (Below w.heap.size w wq) := Lib.hid (by rw [← hwq]; exact below_drewN HBv.out)
    have HQ2 : Hid (wq.heap[(w.heap.size + 1 + 1)]? = some (.cells vz 75 (0, 0))) := Lib.hid ((hqv _).trans G2.out)
    have KR : Hid (∀ w', Gr w w' → w'.rangeAt g (o + k * 32) pp) := Lib.hid (fun w' h => KR0.out w' h)
    have HSQ : Hid (wq.heap.size = wv.heap.size) := Lib.hid (by rw [← hwq]; rfl)
    have HQV := Lib.hid hqv
    rw [hwq]
    clear hwq c0 c1 s0 s1 hqv
    go_wp2_with fail
    refine wp_region_held_drew (S := Gr w) (by kernel_rfl) (HBq.out.drew) (fun hHeld => ?_)
    refine wpAnyH_take (i := 0) (v := ?tv1) rfl (by kernel_rfl) (by kernel_rfl) (by kernel_rfl) (fun _ _ _ h => h) (Or.inl ⟨by rfl, ?ty1⟩) (by assumption) ?tr1
    case ty1 => (intro w hSw; (try dsimp only at hSw); go_simp; (try with_reducible rfl))
    try simp only [Act.put, List.getElem_toArray, List.getElem_cons_zero, List.setIfInBounds_toArray, List.set_cons_zero, List.set_cons_succ]
    refine wpAnyH_take (i := 1) (v := ?tv2) rfl (by kernel_rfl) (by kernel_rfl) (by kernel_rfl) (fun _ _ _ h => h) (Or.inl ⟨by rfl, ?ty2⟩) (by assumption) ?tr2
    case ty2 => (intro w hSw; (try dsimp only at hSw); go_simp; (try with_reducible rfl))
    try simp only [Act.put, List.getElem_toArray, List.getElem_cons_zero, List.getElem_cons_succ, List.setIfInBounds_toArray, List.set_cons_zero, List.set_cons_succ]
    refine wpAnyH_take (i := 2) (v := ?tv3) rfl (by kernel_rfl) (by kernel_rfl) (by kernel_rfl) (fun _ _ _ h => h) (Or.inl ⟨by rfl, ?ty3⟩) (by assumption) ?tr3
    case ty3 => (intro w hSw; (try dsimp only at hSw); go_simp; (try with_reducible rfl))
    try simp only [Act.put, List.getElem_toArray, List.getElem_cons_zero, List.getElem_cons_succ, List.setIfInBounds_toArray, List.set_cons_zero, List.set_cons_succ]
    refine wpAnyH_take (i := 3) (v := ?tv4) rfl (by kernel_rfl) (by kernel_rfl) (by kernel_rfl) (fun _ _ _ h => h) (Or.inl ⟨by rfl, ?ty4⟩) (by assumption) ?tr4
    case ty4 => (intro w hSw; (try dsimp only at hSw); have q9 := cell_below hSw C23.out.1 HWL.out; go_simp; (try with_reducible rfl))
    try simp only [Act.put, List.getElem_toArray, List.getElem_cons_zero, List.getElem_cons_succ, List.setIfInBounds_toArray, List.set_cons_zero, List.set_cons_succ]
    refine wpAnyH_take (i := 4) (v := ?tv5) rfl (by kernel_rfl) (by kernel_rfl) (by kernel_rfl) (fun _ _ _ h => h) (Or.inl ⟨by rfl, ?ty5⟩) (by assumption) ?tr5
    case ty5 => (intro w hSw; (try dsimp only at hSw); go_simp; (try with_reducible rfl))
    try simp only [Act.put, List.getElem_toArray, List.getElem_cons_zero, List.getElem_cons_succ, List.setIfInBounds_toArray, List.set_cons_zero, List.set_cons_succ]
    refine wpAnyH_take (i := 5) (v := ?tv6) rfl (by kernel_rfl) (by kernel_rfl) (by kernel_rfl) (fun _ _ _ h => h) (Or.inl ⟨by rfl, ?ty6⟩) (by assumption) ?tr6
    case ty6 => (intro w hSw; (try dsimp only at hSw); go_simp; (try with_reducible rfl))
    try simp only [Act.put, List.getElem_toArray, List.getElem_cons_zero, List.getElem_cons_succ, List.setIfInBounds_toArray, List.set_cons_zero, List.set_cons_succ]
    refine wpAnyH_take (i := 6) (v := ?tv7) rfl (by kernel_rfl) (by kernel_rfl) (by kernel_rfl) (fun _ _ _ h => h) (Or.inl ⟨by rfl, ?ty7⟩) (by assumption) ?tr7
    case ty7 => (intro w hSw; (try dsimp only at hSw); go_simp; (try with_reducible rfl))
    try simp only [Act.put, List.getElem_toArray, List.getElem_cons_zero, List.getElem_cons_succ, List.setIfInBounds_toArray, List.set_cons_zero, List.set_cons_succ]
    refine wpAnyH_take (i := 7) (v := ?tv8) rfl (by kernel_rfl) (by kernel_rfl) (by kernel_rfl) (fun _ _ _ h => h) (Or.inl ⟨by rfl, ?ty8⟩) (by assumption) ?tr8
    case ty8 => (intro w hSw; (try dsimp only at hSw); have q9 := cell_below hSw C23.out.2 HWL.out; go_simp; (try with_reducible rfl))
    try simp only [Act.put, List.getElem_toArray, List.getElem_cons_zero, List.getElem_cons_succ, List.setIfInBounds_toArray, List.set_cons_zero, List.set_cons_succ]
    refine wpAnyH_take (i := 8) (v := ?tv9) rfl (by kernel_rfl) (by kernel_rfl) (by kernel_rfl) (fun _ _ _ h => h) (Or.inl ⟨by rfl, ?ty9⟩) (by assumption) ?tr9
    case ty9 => (intro w hSw; (try dsimp only at hSw); go_simp; (try with_reducible rfl))
    try simp only [Act.put, List.getElem_toArray, List.getElem_cons_zero, List.getElem_cons_succ, List.setIfInBounds_toArray, List.set_cons_zero, List.set_cons_succ]
    refine wpAnyH_take (i := 9) (v := _) rfl (by kernel_rfl) (by kernel_rfl) (by kernel_rfl) (fun _ _ _ h => h) (yieldsIf_load_mid (by rfl) 75 _ (by rfl) g (o + k * 32) (by rfl) pp _ (fun w h => KR.out w h) Tryz.underlying75 (by rfl) IP.out) (by assumption) ?_
    try simp only [Act.put, List.getElem_toArray, List.getElem_cons_zero, List.getElem_cons_succ, List.setIfInBounds_toArray, List.set_cons_zero, List.set_cons_succ]
    refine wpAnyH_ready (rs := [10]) (by kernel_rfl) (by simp) ?_
    refine AllReadyH.cons (i := 10) rfl (fun K2 hK2 => ?_) AllReadyH.nil
    rw [if_pos (by rfl)]
    rw [PV.out]
    refine wp_store_row 75 _ _ rfl (w.heap.size + 1 + 1) vp rfl rfl 75 _ HQ2.out Ivp.out (by rw [Zvz.out, Zvp.out]) Ovp.out ?_
    refine hK2.out _ _ (show Gr w _ from below_setRow (show Below w.heap.size w wq.drew from HBq.out.drew) _ _ (by omega)) (fun hHeld2 => ?_)
    clear hK2 K2
    try simp only [Act.put, List.getElem_toArray, List.getElem_cons_zero, List.getElem_cons_succ]
    refine wpAnyH_done (by kernel_rfl) ?_ _
    obtain ⟨ws, hws⟩ : ∃ x, wq.drew.setRow (w.heap.size + 1 + 1) vp = x := ⟨_, rfl⟩
    have hsq : ∀ j : Nat, j ≠ (w.heap.size + 1 + 1) → ws.heap[j]? = wv.heap[j]? := fun j hj => by rw [← hws, setRow_other _ _ _ _ hj]; exact HQV.out j
    have T6s : Hid (ws.heap[(w.heap.size + 1 + 1)]? = some (.cells vp 75 (0, 0))) := Lib.hid (by rw [← hws]; exact setRow_heap _ _ _ _ _ _ HQ2.out)
    have HBs : Hid (Below w.heap.size w ws) := Lib.hid (by rw [← hws]; exact below_setRow HBq.out.drew _ _ (by omega))
    have HSs : Hid (ws.heap.size = wv.heap.size) := Lib.hid (by rw [← hws, setRow_size]; exact HSQ.out)
    have HSQV := Lib.hid hsq
    have HWS : Hid (GAt ws W x (.slice lA m lcap) (.slice (some ⟨g, o, none⟩) n cap) k) := Lib.hid ((HBs.out.block W HWL.out).trans HW.out)
    have c3 : ws.cell? ⟨W, 3, none⟩ = some (.int .i64 k) := cell_below HBs.out C23.out.2 HWL.out
    have f3 : ws.frozen? ⟨W, 3, none⟩ = false := frozen_of_row ws W 3 _ 97 HWS.out
    have hWs : W < ws.heap.size := by have := HSs.out; omega
    have hk9 : (k : Int) + 1 < 9223372036854775808 := by omega
    rw [hws]
    clear hws hsq
    go_upto_region 16 with fail
    obtain ⟨wt, hwt⟩ : ∃ x, ws.setCell ⟨W, 3, none⟩ (.int .i64 (k + 1)) = x := ⟨_, rfl⟩
    have hst : ∀ j : Nat, j ≠ W → wt.heap[j]? = ws.heap[j]? := fun j hj => by rw [← hwt]; exact heap_setCell_other _ _ _ _ hj
    have T6 : Hid (wt.heap[(w.heap.size + 1 + 1)]? = some (.cells vp 75 (0, 0))) := Lib.hid ((hst _ (by have := HWL.out; omega)).trans T6s.out)
    have T8 : Hid (wt.heap[(w.heap.size + 1 + 1 + 1)]? = some (.cells vz 75 (0, 0))) := Lib.hid ((hst _ (by have := HWL.out; omega)).trans ((HSQV.out _ (by omega)).trans G3.out))
    have HGT : Hid (GAt wt W x (.slice lA m lcap) (.slice (some ⟨g, o, none⟩) n cap) (k + 1)) := Lib.hid (by rw [← hwt]; exact heap_setCell_same _ _ _ _ _ _ HWS.out)
    have HBT : Hid (But (· = W) w wt) := Lib.hid (by rw [← hwt]; exact (But.new HBs.out).setCell W 3 _ (fun _ => rfl))
    have TZ : Hid (w.heap.size + 3 < wt.heap.size) := Lib.hid (by rw [← hwt]; simp; have := HSs.out; have := HSV.out; omega)
    have a0 : wt.cell? ⟨w.heap.size, 0, none⟩ = some (.int .u64 b) := by rw [cell_of_row wt w.heap.size 0 _ 101 (0, 0) (((hst w.heap.size (by have := HWL.out; omega)).trans (HSQV.out w.heap.size (by omega))).trans G0.out)]; rfl
    have a1 : wt.cell? ⟨w.heap.size, 1, none⟩ = some (.int .u64 e) := by rw [cell_of_row wt w.heap.size 1 _ 101 (0, 0) (((hst w.heap.size (by have := HWL.out; omega)).trans (HSQV.out w.heap.size (by omega))).trans G0.out)]; rfl
    have a2 : wt.cell? ⟨w.heap.size + 1, 0, none⟩ = some (.int .u64 p) := by rw [cell_of_row wt (w.heap.size + 1) 0 _ 101 (0, 0) (((hst (w.heap.size + 1) (by have := HWL.out; omega)).trans (HSQV.out (w.heap.size + 1) (by omega))).trans G1.out)]; rfl
    have a3 : wt.cell? ⟨w.heap.size + 1, 1, none⟩ = some (.int .u64 q) := by rw [cell_of_row wt (w.heap.size + 1) 1 _ 101 (0, 0) (((hst (w.heap.size + 1) (by have := HWL.out; omega)).trans (HSQV.out (w.heap.size + 1) (by omega))).trans G1.out)]; rfl
    have hz0 : w.heap.size < wt.heap.size := by have := TZ.out; omega
    have hz1 : w.heap.size + 1 < wt.heap.size := by have := TZ.out; omega
    rw [hwt]
    clear hwt hst c3 f3 hWs
    by_cases hpq : b = p ∧ e = q
    · obtain ⟨rfl, rfl⟩ := hpq
      go_wp2_with (first
        | (refine wpList_load_row rfl 75 _ rfl (w.heap.size + 1 + 1) rfl 75 vp (0, 0) _ T6.out Tryz.underlying75 rfl Ivp.out ?_)
        | (refine wpList_store_row rfl 75 _ _ rfl (w.heap.size + 1 + 1) vp rfl rfl 75 _ T6.out Ivp.out rfl Ovp.out ?_)
        | (refine wpList_store_row rfl 75 _ _ rfl (w.heap.size + 1 + 1 + 1) vp rfl rfl 75 _ ((setRow_other _ _ _ _ (by omega)).trans T8.out) Ivp.out (by rw [Zvz.out, Zvp.out]) Ovp.out ?_))
      refine bodyPost_ret (v := .tuple #[.agg vp, .bool true, .agg vp]) (results_row_tmp_row rfl _ _ (w.heap.size + 1 + 1) (w.heap.size + 1 + 1 + 1) 75 75 vp vp (0, 0) (0, 0) _ rfl ((setRow_other _ _ _ _ (by omega)).trans (setRow_heap _ _ _ _ _ _ T6.out)) rfl (setRow_heap _ _ _ _ _ _ ((setRow_other _ _ _ _ (by omega)).trans T8.out)) Tryz.underlying75 rfl Ivp.out Ivp.out _ rfl) rfl ?_
      exact ⟨by (try rw [if_pos ⟨rfl, rfl⟩]); unfold saidV; rw [Option.isSome_some, Option.getD_some, EVP.out], gat_end HGT.out HBT.out HWL.out (((But.refl _ wt).setRow (w.heap.size + 1 + 1) vp (fun _ => by omega)).setRow (w.heap.size + 1 + 1 + 1) vp (fun _ => by omega))⟩
    · have hne : (b == p && e == q) = false := by
        rw [Bool.and_eq_false_iff]
        by_cases h : b = p
        · right; simp; intro h2; exact hpq ⟨h, h2⟩
        · left; simp; exact h
      have hqs : ∀ w, (Op.equalIn 10000 101 (.agg #[.int .u64 b, .int .u64 e]) (.agg #[.int .u64 p, .int .u64 q])).run Tryz.prog w = .ok false w := fun w => by rw [eq_span, hne]
      have HPQ := Lib.hid hpq
      clear hpq hne
      go_wp2_with fail
      refine wp_region_held_drew (S := Gr wt) (by kernel_rfl) ((Gr.refl _).drew) (fun hHeld => ?_)
      refine wpAnyH_take (i := 0) (v := _) rfl (by kernel_rfl) (by kernel_rfl) (by kernel_rfl) (fun _ _ _ h => h) (yieldsIf_load_row (by rfl) 75 _ (by rfl) (w.heap.size + 1 + 1) (by rfl) 75 vp (0, 0) _ (fun w h => (Below.block h _ (by have := TZ.out; omega)).trans T6.out) Tryz.underlying75 rfl Ivp.out) (by assumption) ?_
      try simp only [Act.put, List.getElem_toArray, List.getElem_cons_zero, List.setIfInBounds_toArray, List.set_cons_zero, List.set_cons_succ]
      refine wpAnyH_take (i := 1) (v := ?tv12) rfl (by kernel_rfl) (by kernel_rfl) (by kernel_rfl) (fun _ _ _ h => h) (Or.inl ⟨by rfl, ?ty12⟩) (by assumption) ?tr12
      case ty12 => (intro w hSw; (try dsimp only at hSw); go_simp; (try with_reducible rfl))
      try simp only [Act.put, List.getElem_toArray, List.getElem_cons_zero, List.getElem_cons_succ, List.setIfInBounds_toArray, List.set_cons_zero, List.set_cons_succ]
      refine wpAnyH_take (i := 2) (v := _) rfl (by kernel_rfl) (by kernel_rfl) (by kernel_rfl) (fun _ _ _ h => h) (yieldsIf_load_row (by rfl) 75 _ (by rfl) (w.heap.size + 1 + 1 + 1) (by rfl) 75 vz (0, 0) _ (fun w h => (Below.block h _ (by have := TZ.out; omega)).trans T8.out) Tryz.underlying75 rfl Ivz.out) (by assumption) ?_
      try simp only [Act.put, List.getElem_toArray, List.getElem_cons_zero, List.getElem_cons_succ, List.setIfInBounds_toArray, List.set_cons_zero, List.set_cons_succ]
      refine wpAnyH_ready (rs := [3]) (by kernel_rfl) (by simp) ?_
      refine AllReadyH.cons (i := 3) rfl (fun K2 hK2 => ?_) AllReadyH.nil
      rw [if_pos (by rfl)]
      refine wp_store_row 75 _ _ rfl (w.heap.size + 1 + 1) vp rfl rfl 75 _ ((Below.block (show Gr wt wt.drew from (Gr.drew (Gr.refl _))) _ (by have := TZ.out; omega)).trans T6.out) Ivp.out rfl Ovp.out ?_
      refine hK2.out _ _ (show Gr wt _ from (gr_setRow_same (Gr.drew (Gr.refl _)) T6.out)) (fun hHeld2 => ?_)
      clear hK2 K2
      try simp only [Act.put, List.getElem_toArray, List.getElem_cons_zero, List.getElem_cons_succ]
      refine wpAnyH_take (i := 4) (v := ?tv14) rfl (by kernel_rfl) (by kernel_rfl) (by kernel_rfl) (fun _ _ _ h => h) (Or.inl ⟨by rfl, ?ty14⟩) (by assumption) ?tr14
      case ty14 => (intro w hSw; (try dsimp only at hSw); go_simp; (try with_reducible rfl))
      try simp only [Act.put, List.getElem_toArray, List.getElem_cons_zero, List.getElem_cons_succ, List.setIfInBounds_toArray, List.set_cons_zero, List.set_cons_succ]
      refine wpAnyH_ready (rs := [5]) (by kernel_rfl) (by simp) ?_
      refine AllReadyH.cons (i := 5) rfl (fun K2 hK2 => ?_) AllReadyH.nil
      rw [if_pos (by rfl)]
      refine wp_store_row 75 _ _ rfl (w.heap.size + 1 + 1 + 1) vz rfl rfl 75 _ ((Below.block (show Gr wt (wt.drew.setRow (w.heap.size + 1 + 1) vp) from (gr_setRow_same (Gr.drew (Gr.refl _)) T6.out)) _ (by have := TZ.out; omega)).trans T8.out) Ivz.out rfl Ovz.out ?_
      refine hK2.out _ _ (show Gr wt _ from (gr_setRow_same (gr_setRow_same (Gr.drew (Gr.refl _)) T6.out) T8.out)) (fun hHeld2 => ?_)
      clear hK2 K2
      try simp only [Act.put, List.getElem_toArray, List.getElem_cons_zero, List.getElem_cons_succ]
      refine wpAnyH_done (by kernel_rfl) ?_ _
      obtain ⟨we, hwe⟩ : ∃ x, ((wt.drew.setRow (w.heap.size + 1 + 1) vp).setRow (w.heap.size + 1 + 1 + 1) vz) = x := ⟨_, rfl⟩
      have HGE : Hid (Gr wt we) := Lib.hid (by rw [← hwe]; exact (gr_setRow_same (gr_setRow_same (Gr.drew (Gr.refl _)) T6.out) T8.out))
      rw [hwe]
      clear hwe hHeld hHeld2 hqs a0 a1 a2 a3
      apply (by assumption : ∀ (a : Act) (w : World), Code.wp Tryz.prog Code.ret _ a w → _)
      apply wp_ret
      refine bodyPost_ret (v := .tuple #[.agg vp, .bool false, .agg vz]) (results_row_tmp_row rfl _ _ (w.heap.size + 1 + 1) (w.heap.size + 1 + 1 + 1) 75 75 vp vz (0, 0) (0, 0) _ rfl ((Below.block HGE.out _ (by have := TZ.out; omega)).trans T6.out) rfl ((Below.block HGE.out _ (by have := TZ.out; omega)).trans T8.out) Tryz.underlying75 rfl Ivp.out Ivz.out _ rfl) rfl ?_
      exact ⟨by rw [if_neg HPQ.out]; unfold saidV; rw [Option.isSome_none, Option.getD_none, EVP.out, zeroH_v, EVZ.out], gat_end HGT.out HBT.out HWL.out (But.new HGE.out)⟩
  · have hd : decide (e ≤ x) = false := by simp; exact hd1
    have hdd : decide (x + (m : Int) ≤ b) = true := by simp; exact hd2
    have hm8 : (m : Int) < 18446744073709551616 := by omega
    have hm99 : x + (m : Int) < 18446744073709551616 := by omega
    have HD := Lib.hid hd1
    clear hd1
    clear hm9
    go_enter Tryz.func29, Tryz.ntmps29
    go_upto_region 1 with fail
    rw [HWV.out]
    go_quiet (fail)
    obtain ⟨wq, hwq⟩ : ∃ wq, wv.drewN nq = wq := ⟨_, rfl⟩
    have hqv : ∀ j : Nat, wq.heap[j]? = wv.heap[j]? := fun j => by rw [← hwq]; rfl
    have HBq : Hid (Below w.heap.size w wq) := Lib.hid (by rw [← hwq]; exact below_drewN HBv.out)
    have HQ2 : Hid (wq.heap[(w.heap.size + 1 + 1)]? = some (.cells vz 75 (0, 0))) := Lib.hid ((hqv _).trans G2.out)
    have KR : Hid (∀ w', Gr w w' → w'.rangeAt g (o + k * 32) pp) := Lib.hid (fun w' h => KR0.out w' h)
    have HSQ : Hid (wq.heap.size = wv.heap.size) := Lib.hid (by rw [← hwq]; rfl)
    have HQV := Lib.hid hqv
    rw [hwq]
    clear hwq c0 c1 s0 s1 hqv
    go_wp2_with fail
    refine wp_region_held_drew (S := Gr w) (by kernel_rfl) (HBq.out.drew) (fun hHeld => ?_)
    refine wpAnyH_take (i := 0) (v := ?tv15) rfl (by kernel_rfl) (by kernel_rfl) (by kernel_rfl) (fun _ _ _ h => h) (Or.inl ⟨by rfl, ?ty15⟩) (by assumption) ?tr15
    case ty15 => (intro w hSw; (try dsimp only at hSw); go_simp; (try with_reducible rfl))
    try simp only [Act.put, List.getElem_toArray, List.getElem_cons_zero, List.setIfInBounds_toArray, List.set_cons_zero, List.set_cons_succ]
    refine wpAnyH_take (i := 1) (v := ?tv16) rfl (by kernel_rfl) (by kernel_rfl) (by kernel_rfl) (fun _ _ _ h => h) (Or.inl ⟨by rfl, ?ty16⟩) (by assumption) ?tr16
    case ty16 => (intro w hSw; (try dsimp only at hSw); go_simp; (try with_reducible rfl))
    try simp only [Act.put, List.getElem_toArray, List.getElem_cons_zero, List.getElem_cons_succ, List.setIfInBounds_toArray, List.set_cons_zero, List.set_cons_succ]
    refine wpAnyH_take (i := 2) (v := ?tv17) rfl (by kernel_rfl) (by kernel_rfl) (by kernel_rfl) (fun _ _ _ h => h) (Or.inl ⟨by rfl, ?ty17⟩) (by assumption) ?tr17
    case ty17 => (intro w hSw; (try dsimp only at hSw); go_simp; (try with_reducible rfl))
    try simp only [Act.put, List.getElem_toArray, List.getElem_cons_zero, List.getElem_cons_succ, List.setIfInBounds_toArray, List.set_cons_zero, List.set_cons_succ]
    refine wpAnyH_take (i := 3) (v := ?tv18) rfl (by kernel_rfl) (by kernel_rfl) (by kernel_rfl) (fun _ _ _ h => h) (Or.inl ⟨by rfl, ?ty18⟩) (by assumption) ?tr18
    case ty18 => (intro w hSw; (try dsimp only at hSw); have q9 := cell_below hSw C23.out.1 HWL.out; go_simp; (try with_reducible rfl))
    try simp only [Act.put, List.getElem_toArray, List.getElem_cons_zero, List.getElem_cons_succ, List.setIfInBounds_toArray, List.set_cons_zero, List.set_cons_succ]
    refine wpAnyH_take (i := 4) (v := ?tv19) rfl (by kernel_rfl) (by kernel_rfl) (by kernel_rfl) (fun _ _ _ h => h) (Or.inl ⟨by rfl, ?ty19⟩) (by assumption) ?tr19
    case ty19 => (intro w hSw; (try dsimp only at hSw); go_simp; (try with_reducible rfl))
    try simp only [Act.put, List.getElem_toArray, List.getElem_cons_zero, List.getElem_cons_succ, List.setIfInBounds_toArray, List.set_cons_zero, List.set_cons_succ]
    refine wpAnyH_take (i := 5) (v := ?tv20) rfl (by kernel_rfl) (by kernel_rfl) (by kernel_rfl) (fun _ _ _ h => h) (Or.inl ⟨by rfl, ?ty20⟩) (by assumption) ?tr20
    case ty20 => (intro w hSw; (try dsimp only at hSw); go_simp; (try with_reducible rfl))
    try simp only [Act.put, List.getElem_toArray, List.getElem_cons_zero, List.getElem_cons_succ, List.setIfInBounds_toArray, List.set_cons_zero, List.set_cons_succ]
    refine wpAnyH_take (i := 6) (v := ?tv21) rfl (by kernel_rfl) (by kernel_rfl) (by kernel_rfl) (fun _ _ _ h => h) (Or.inl ⟨by rfl, ?ty21⟩) (by assumption) ?tr21
    case ty21 => (intro w hSw; (try dsimp only at hSw); go_simp; (try with_reducible rfl))
    try simp only [Act.put, List.getElem_toArray, List.getElem_cons_zero, List.getElem_cons_succ, List.setIfInBounds_toArray, List.set_cons_zero, List.set_cons_succ]
    refine wpAnyH_take (i := 7) (v := ?tv22) rfl (by kernel_rfl) (by kernel_rfl) (by kernel_rfl) (fun _ _ _ h => h) (Or.inl ⟨by rfl, ?ty22⟩) (by assumption) ?tr22
    case ty22 => (intro w hSw; (try dsimp only at hSw); have q9 := cell_below hSw C23.out.2 HWL.out; go_simp; (try with_reducible rfl))
    try simp only [Act.put, List.getElem_toArray, List.getElem_cons_zero, List.getElem_cons_succ, List.setIfInBounds_toArray, List.set_cons_zero, List.set_cons_succ]
    refine wpAnyH_take (i := 8) (v := ?tv23) rfl (by kernel_rfl) (by kernel_rfl) (by kernel_rfl) (fun _ _ _ h => h) (Or.inl ⟨by rfl, ?ty23⟩) (by assumption) ?tr23
    case ty23 => (intro w hSw; (try dsimp only at hSw); go_simp; (try with_reducible rfl))
    try simp only [Act.put, List.getElem_toArray, List.getElem_cons_zero, List.getElem_cons_succ, List.setIfInBounds_toArray, List.set_cons_zero, List.set_cons_succ]
    refine wpAnyH_take (i := 9) (v := _) rfl (by kernel_rfl) (by kernel_rfl) (by kernel_rfl) (fun _ _ _ h => h) (yieldsIf_load_mid (by rfl) 75 _ (by rfl) g (o + k * 32) (by rfl) pp _ (fun w h => KR.out w h) Tryz.underlying75 (by rfl) IP.out) (by assumption) ?_
    try simp only [Act.put, List.getElem_toArray, List.getElem_cons_zero, List.getElem_cons_succ, List.setIfInBounds_toArray, List.set_cons_zero, List.set_cons_succ]
    refine wpAnyH_ready (rs := [10]) (by kernel_rfl) (by simp) ?_
    refine AllReadyH.cons (i := 10) rfl (fun K2 hK2 => ?_) AllReadyH.nil
    rw [if_pos (by rfl)]
    rw [PV.out]
    refine wp_store_row 75 _ _ rfl (w.heap.size + 1 + 1) vp rfl rfl 75 _ HQ2.out Ivp.out (by rw [Zvz.out, Zvp.out]) Ovp.out ?_
    refine hK2.out _ _ (show Gr w _ from below_setRow (show Below w.heap.size w wq.drew from HBq.out.drew) _ _ (by omega)) (fun hHeld2 => ?_)
    clear hK2 K2
    try simp only [Act.put, List.getElem_toArray, List.getElem_cons_zero, List.getElem_cons_succ]
    refine wpAnyH_done (by kernel_rfl) ?_ _
    obtain ⟨ws, hws⟩ : ∃ x, wq.drew.setRow (w.heap.size + 1 + 1) vp = x := ⟨_, rfl⟩
    have hsq : ∀ j : Nat, j ≠ (w.heap.size + 1 + 1) → ws.heap[j]? = wv.heap[j]? := fun j hj => by rw [← hws, setRow_other _ _ _ _ hj]; exact HQV.out j
    have T6s : Hid (ws.heap[(w.heap.size + 1 + 1)]? = some (.cells vp 75 (0, 0))) := Lib.hid (by rw [← hws]; exact setRow_heap _ _ _ _ _ _ HQ2.out)
    have HBs : Hid (Below w.heap.size w ws) := Lib.hid (by rw [← hws]; exact below_setRow HBq.out.drew _ _ (by omega))
    have HSs : Hid (ws.heap.size = wv.heap.size) := Lib.hid (by rw [← hws, setRow_size]; exact HSQ.out)
    have HSQV := Lib.hid hsq
    have HWS : Hid (GAt ws W x (.slice lA m lcap) (.slice (some ⟨g, o, none⟩) n cap) k) := Lib.hid ((HBs.out.block W HWL.out).trans HW.out)
    have c3 : ws.cell? ⟨W, 3, none⟩ = some (.int .i64 k) := cell_below HBs.out C23.out.2 HWL.out
    have f3 : ws.frozen? ⟨W, 3, none⟩ = false := frozen_of_row ws W 3 _ 97 HWS.out
    have hWs : W < ws.heap.size := by have := HSs.out; omega
    have hk9 : (k : Int) + 1 < 9223372036854775808 := by omega
    rw [hws]
    clear hws hsq
    go_upto_region 16 with fail
    obtain ⟨wt, hwt⟩ : ∃ x, ws.setCell ⟨W, 3, none⟩ (.int .i64 (k + 1)) = x := ⟨_, rfl⟩
    have hst : ∀ j : Nat, j ≠ W → wt.heap[j]? = ws.heap[j]? := fun j hj => by rw [← hwt]; exact heap_setCell_other _ _ _ _ hj
    have T6 : Hid (wt.heap[(w.heap.size + 1 + 1)]? = some (.cells vp 75 (0, 0))) := Lib.hid ((hst _ (by have := HWL.out; omega)).trans T6s.out)
    have T8 : Hid (wt.heap[(w.heap.size + 1 + 1 + 1)]? = some (.cells vz 75 (0, 0))) := Lib.hid ((hst _ (by have := HWL.out; omega)).trans ((HSQV.out _ (by omega)).trans G3.out))
    have HGT : Hid (GAt wt W x (.slice lA m lcap) (.slice (some ⟨g, o, none⟩) n cap) (k + 1)) := Lib.hid (by rw [← hwt]; exact heap_setCell_same _ _ _ _ _ _ HWS.out)
    have HBT : Hid (But (· = W) w wt) := Lib.hid (by rw [← hwt]; exact (But.new HBs.out).setCell W 3 _ (fun _ => rfl))
    have TZ : Hid (w.heap.size + 3 < wt.heap.size) := Lib.hid (by rw [← hwt]; simp; have := HSs.out; have := HSV.out; omega)
    have a0 : wt.cell? ⟨w.heap.size, 0, none⟩ = some (.int .u64 b) := by rw [cell_of_row wt w.heap.size 0 _ 101 (0, 0) (((hst w.heap.size (by have := HWL.out; omega)).trans (HSQV.out w.heap.size (by omega))).trans G0.out)]; rfl
    have a1 : wt.cell? ⟨w.heap.size, 1, none⟩ = some (.int .u64 e) := by rw [cell_of_row wt w.heap.size 1 _ 101 (0, 0) (((hst w.heap.size (by have := HWL.out; omega)).trans (HSQV.out w.heap.size (by omega))).trans G0.out)]; rfl
    have a2 : wt.cell? ⟨w.heap.size + 1, 0, none⟩ = some (.int .u64 p) := by rw [cell_of_row wt (w.heap.size + 1) 0 _ 101 (0, 0) (((hst (w.heap.size + 1) (by have := HWL.out; omega)).trans (HSQV.out (w.heap.size + 1) (by omega))).trans G1.out)]; rfl
    have a3 : wt.cell? ⟨w.heap.size + 1, 1, none⟩ = some (.int .u64 q) := by rw [cell_of_row wt (w.heap.size + 1) 1 _ 101 (0, 0) (((hst (w.heap.size + 1) (by have := HWL.out; omega)).trans (HSQV.out (w.heap.size + 1) (by omega))).trans G1.out)]; rfl
    have hz0 : w.heap.size < wt.heap.size := by have := TZ.out; omega
    have hz1 : w.heap.size + 1 < wt.heap.size := by have := TZ.out; omega
    rw [hwt]
    clear hwt hst c3 f3 hWs
    by_cases hpq : b = p ∧ e = q
    · obtain ⟨rfl, rfl⟩ := hpq
      go_wp2_with (first
        | (refine wpList_load_row rfl 75 _ rfl (w.heap.size + 1 + 1) rfl 75 vp (0, 0) _ T6.out Tryz.underlying75 rfl Ivp.out ?_)
        | (refine wpList_store_row rfl 75 _ _ rfl (w.heap.size + 1 + 1) vp rfl rfl 75 _ T6.out Ivp.out rfl Ovp.out ?_)
        | (refine wpList_store_row rfl 75 _ _ rfl (w.heap.size + 1 + 1 + 1) vp rfl rfl 75 _ ((setRow_other _ _ _ _ (by omega)).trans T8.out) Ivp.out (by rw [Zvz.out, Zvp.out]) Ovp.out ?_))
      refine bodyPost_ret (v := .tuple #[.agg vp, .bool true, .agg vp]) (results_row_tmp_row rfl _ _ (w.heap.size + 1 + 1) (w.heap.size + 1 + 1 + 1) 75 75 vp vp (0, 0) (0, 0) _ rfl ((setRow_other _ _ _ _ (by omega)).trans (setRow_heap _ _ _ _ _ _ T6.out)) rfl (setRow_heap _ _ _ _ _ _ ((setRow_other _ _ _ _ (by omega)).trans T8.out)) Tryz.underlying75 rfl Ivp.out Ivp.out _ rfl) rfl ?_
      exact ⟨by (try rw [if_pos ⟨rfl, rfl⟩]); unfold saidV; rw [Option.isSome_some, Option.getD_some, EVP.out], gat_end HGT.out HBT.out HWL.out (((But.refl _ wt).setRow (w.heap.size + 1 + 1) vp (fun _ => by omega)).setRow (w.heap.size + 1 + 1 + 1) vp (fun _ => by omega))⟩
    · have hne : (b == p && e == q) = false := by
        rw [Bool.and_eq_false_iff]
        by_cases h : b = p
        · right; simp; intro h2; exact hpq ⟨h, h2⟩
        · left; simp; exact h
      have hqs : ∀ w, (Op.equalIn 10000 101 (.agg #[.int .u64 b, .int .u64 e]) (.agg #[.int .u64 p, .int .u64 q])).run Tryz.prog w = .ok false w := fun w => by rw [eq_span, hne]
      have HPQ := Lib.hid hpq
      clear hpq hne
      go_wp2_with fail
      refine wp_region_held_drew (S := Gr wt) (by kernel_rfl) ((Gr.refl _).drew) (fun hHeld => ?_)
      refine wpAnyH_take (i := 0) (v := _) rfl (by kernel_rfl) (by kernel_rfl) (by kernel_rfl) (fun _ _ _ h => h) (yieldsIf_load_row (by rfl) 75 _ (by rfl) (w.heap.size + 1 + 1) (by rfl) 75 vp (0, 0) _ (fun w h => (Below.block h _ (by have := TZ.out; omega)).trans T6.out) Tryz.underlying75 rfl Ivp.out) (by assumption) ?_
      try simp only [Act.put, List.getElem_toArray, List.getElem_cons_zero, List.setIfInBounds_toArray, List.set_cons_zero, List.set_cons_succ]
      refine wpAnyH_take (i := 1) (v := ?tv26) rfl (by kernel_rfl) (by kernel_rfl) (by kernel_rfl) (fun _ _ _ h => h) (Or.inl ⟨by rfl, ?ty26⟩) (by assumption) ?tr26
      case ty26 => (intro w hSw; (try dsimp only at hSw); go_simp; (try with_reducible rfl))
      try simp only [Act.put, List.getElem_toArray, List.getElem_cons_zero, List.getElem_cons_succ, List.setIfInBounds_toArray, List.set_cons_zero, List.set_cons_succ]
      refine wpAnyH_take (i := 2) (v := _) rfl (by kernel_rfl) (by kernel_rfl) (by kernel_rfl) (fun _ _ _ h => h) (yieldsIf_load_row (by rfl) 75 _ (by rfl) (w.heap.size + 1 + 1 + 1) (by rfl) 75 vz (0, 0) _ (fun w h => (Below.block h _ (by have := TZ.out; omega)).trans T8.out) Tryz.underlying75 rfl Ivz.out) (by assumption) ?_
      try simp only [Act.put, List.getElem_toArray, List.getElem_cons_zero, List.getElem_cons_succ, List.setIfInBounds_toArray, List.set_cons_zero, List.set_cons_succ]
      refine wpAnyH_ready (rs := [3]) (by kernel_rfl) (by simp) ?_
      refine AllReadyH.cons (i := 3) rfl (fun K2 hK2 => ?_) AllReadyH.nil
      rw [if_pos (by rfl)]
      refine wp_store_row 75 _ _ rfl (w.heap.size + 1 + 1) vp rfl rfl 75 _ ((Below.block (show Gr wt wt.drew from (Gr.drew (Gr.refl _))) _ (by have := TZ.out; omega)).trans T6.out) Ivp.out rfl Ovp.out ?_
      refine hK2.out _ _ (show Gr wt _ from (gr_setRow_same (Gr.drew (Gr.refl _)) T6.out)) (fun hHeld2 => ?_)
      clear hK2 K2
      try simp only [Act.put, List.getElem_toArray, List.getElem_cons_zero, List.getElem_cons_succ]
      refine wpAnyH_take (i := 4) (v := ?tv28) rfl (by kernel_rfl) (by kernel_rfl) (by kernel_rfl) (fun _ _ _ h => h) (Or.inl ⟨by rfl, ?ty28⟩) (by assumption) ?tr28
      case ty28 => (intro w hSw; (try dsimp only at hSw); go_simp; (try with_reducible rfl))
      try simp only [Act.put, List.getElem_toArray, List.getElem_cons_zero, List.getElem_cons_succ, List.setIfInBounds_toArray, List.set_cons_zero, List.set_cons_succ]
      refine wpAnyH_ready (rs := [5]) (by kernel_rfl) (by simp) ?_
      refine AllReadyH.cons (i := 5) rfl (fun K2 hK2 => ?_) AllReadyH.nil
      rw [if_pos (by rfl)]
      refine wp_store_row 75 _ _ rfl (w.heap.size + 1 + 1 + 1) vz rfl rfl 75 _ ((Below.block (show Gr wt (wt.drew.setRow (w.heap.size + 1 + 1) vp) from (gr_setRow_same (Gr.drew (Gr.refl _)) T6.out)) _ (by have := TZ.out; omega)).trans T8.out) Ivz.out rfl Ovz.out ?_
      refine hK2.out _ _ (show Gr wt _ from (gr_setRow_same (gr_setRow_same (Gr.drew (Gr.refl _)) T6.out) T8.out)) (fun hHeld2 => ?_)
      clear hK2 K2
      try simp only [Act.put, List.getElem_toArray, List.getElem_cons_zero, List.getElem_cons_succ]
      refine wpAnyH_done (by kernel_rfl) ?_ _
      obtain ⟨we, hwe⟩ : ∃ x, ((wt.drew.setRow (w.heap.size + 1 + 1) vp).setRow (w.heap.size + 1 + 1 + 1) vz) = x := ⟨_, rfl⟩
      have HGE : Hid (Gr wt we) := Lib.hid (by rw [← hwe]; exact (gr_setRow_same (gr_setRow_same (Gr.drew (Gr.refl _)) T6.out) T8.out))
      rw [hwe]
      clear hwe hHeld hHeld2 hqs a0 a1 a2 a3
      apply (by assumption : ∀ (a : Act) (w : World), Code.wp Tryz.prog Code.ret _ a w → _)
      apply wp_ret
      refine bodyPost_ret (v := .tuple #[.agg vp, .bool false, .agg vz]) (results_row_tmp_row rfl _ _ (w.heap.size + 1 + 1) (w.heap.size + 1 + 1 + 1) 75 75 vp vz (0, 0) (0, 0) _ rfl ((Below.block HGE.out _ (by have := TZ.out; omega)).trans T6.out) rfl ((Below.block HGE.out _ (by have := TZ.out; omega)).trans T8.out) Tryz.underlying75 rfl Ivp.out Ivz.out _ rfl) rfl ?_
      exact ⟨by rw [if_neg HPQ.out]; unfold saidV; rw [Option.isSome_none, Option.getD_none, EVP.out, zeroH_v, EVZ.out], gat_end HGT.out HBT.out HWL.out (But.new HGE.out)⟩

end Go.Proofs.YtchfbdbgmlcfiaaGreatDoor

/- cartularyref19.Given.says: what is said of one leaf of the stretch. No condition. -/
namespace Go.Proofs.YtchfbdbgmlcfiaaGreatDoor
open Go.ChangeShapes Go.WideShapes Go.ChangeAt Go.RowKit
set_option linter.unusedVariables false
set_option maxRecDepth 100000 in
set_option maxHeartbeats 4000000 in
theorem rsays_leaf (W g o cap k m t : Nat) (pv : Value) (x b e p q : Int) (ph : List UInt8) (w : World) (hW : GAt w W x (.slice (some ⟨g, o, none⟩) m cap) pv k) (hx0 : 0 ≤ x) (hb : b = x + t) (he : b < e) (hem : e ≤ 9223372036854775808) (he2 : e - b < 2)
    (htm : t < m) (hc : m ≤ cap) (hcm : cap ≤ 9223372036854775807) (hp : ph.length = 32) (hr : w.rangeAt g (o + t * 32) (bytesV ph)) :
    Calls Tryz.prog 29 #[.pointer (some ⟨W, 0, none⟩), .agg #[.int .u64 b, .int .u64 e], .agg #[.int .u64 p, .int .u64 q]] w fun ev w' => ev = .returned (saidV ph (if b = p ∧ e = q then some ph else none)) ∧ GAt w' W x (.slice (some ⟨g, o, none⟩) m cap) pv k ∧ But (· = W) w w' := by
  have hgl := rangeAt_lt hr (by intro q; have := congrArg List.length q; rw [bytesV_length, hp] at this; simp at this)
  obtain ⟨vp, evp, Hvp, Zvp, Ivp, Ovp⟩ := row_of ph hp
  obtain ⟨pp, hpp⟩ : ∃ s, bytesV ph = s := ⟨_, rfl⟩
  have PV : Hid (pp.toArray = vp) := Lib.hid (by rw [← hpp]; exact Hvp.out)
  have IP : Hid ((Tryz.prog.info? 75).map (·.size) = some pp.length) := Lib.hid (by rw [← hpp, bytesV_length, hp]; kernel_rfl)
  have KR0 : Hid (∀ w', Below w.heap.size w w' → w'.rangeAt g (o + t * 32) pp) := Lib.hid (fun w' hb => by rw [← hpp]; exact rangeAt_below hb hr hgl)
  have EVP := Lib.hid evp
  have cw0 : w.cell? ⟨W, 0, none⟩ = some (.int .u64 x) := by rw [cell_of_row w W 0 _ 97 (0, 0) hW]; rfl
  have cw1 : w.cell? ⟨W, 1, none⟩ = some (.slice (some ⟨g, o, none⟩) m cap) := by rw [cell_of_row w W 1 _ 97 (0, 0) hW]; rfl
  clear hgl hr hpp hp evp
  have hbx : (Tryz.prog.info? 101).map (·.size) = some 2 := by kernel_rfl
  obtain ⟨vz, evz, Hvz, Zvz, Ivz, Ovz⟩ := row_of zeroH zeroH_length
  rw [zeroH_v] at evz
  obtain ⟨wv, hwv⟩ : ∃ x, (((w.alloc (.cells #[.int .u64 b, .int .u64 e] 101)).alloc (.cells #[.int .u64 p, .int .u64 q] 101)).alloc (.cells (List.replicate 32 (Value.int .u8 0)).toArray 75)).alloc (.cells (List.replicate 32 (Value.int .u8 0)).toArray 75) = x := ⟨_, rfl⟩
  have hBv : Below w.heap.size w wv := by rw [← hwv]; exact ((((Below.refl _ _).alloc (Nat.le_refl _) _).alloc (by simp) _).alloc (by simp; omega) _).alloc (by simp; omega) _
  have hsv : wv.heap.size = w.heap.size + 1 + 1 + 1 + 1 := by rw [← hwv]; simp
  have hg3 : wv.heap[(w.heap.size + 1 + 1 + 1)]? = some (.cells vz 75 (0, 0)) := by rw [← hwv, ← Value.agg.inj evz]; exact heap_at _ _ _ (by simp)
  have hg2 : wv.heap[(w.heap.size + 1 + 1)]? = some (.cells vz 75 (0, 0)) := by rw [← hwv, ← Value.agg.inj evz, ((Below.refl _ _).alloc (Nat.le_refl _) _).block _ (by simp)]; exact heap_at _ _ _ (by simp)
  have hg1 : wv.heap[w.heap.size + 1]? = some (.cells #[.int .u64 p, .int .u64 q] 101 (0, 0)) := by
    rw [← hwv, ((((Below.refl _ _).alloc (Nat.le_refl _) _).alloc (by simp) _)).block _ (by simp)]; exact heap_at _ _ _ (by simp)
  have hg0 : wv.heap[w.heap.size]? = some (.cells #[.int .u64 b, .int .u64 e] 101 (0, 0)) := by
    rw [← hwv, (((((Below.refl _ _).alloc (Nat.le_refl _) _).alloc (by simp) _)).alloc (by simp; try omega) _).block _ (by simp; try omega)]; exact heap_at _ _ _ rfl
  have HBv := Lib.hid hBv
  have HWV := Lib.hid hwv
  simp only [List.replicate, List.toArray] at HWV
  have HSV := Lib.hid hsv
  have G0 := Lib.hid hg0
  have G1 := Lib.hid hg1
  have G2 := Lib.hid hg2
  have G3 := Lib.hid hg3
  have EVZ := Lib.hid evz
  have hWl : W < w.heap.size := (Array.getElem?_eq_some_iff.1 hW).1
  have HW := Lib.hid hW
  have HWL := Lib.hid hWl
  clear hwv hBv hsv hg0 hg1 hg2 hg3 evz hW hWl
  have c0 := cell_below HBv.out cw0 HWL.out
  have c1 := cell_below HBv.out cw1 HWL.out
  have s0 : wv.cell? ⟨w.heap.size, 0, none⟩ = some (.int .u64 b) := by rw [cell_of_row wv w.heap.size 0 _ 101 (0, 0) ((Below.refl wv.heap.size wv).block _ (by have := HSV.out; omega) |>.trans G0.out)]; rfl
  have s1 : wv.cell? ⟨w.heap.size, 1, none⟩ = some (.int .u64 e) := by rw [cell_of_row wv w.heap.size 1 _ 101 (0, 0) ((Below.refl wv.heap.size wv).block _ (by have := HSV.out; omega) |>.trans G0.out)]; rfl
  have CC := Lib.hid (And.intro c0 (And.intro c1 s0))
  have hsw : w.heap.size < wv.heap.size := by have := HSV.out; omega
  have hWv : W < wv.heap.size := by have := HWL.out; omega
  have hd : decide (e ≤ x) = false := by simp; omega
  have hdd : decide (x + (m : Int) ≤ b) = false := by simp; omega
  have hm8 : (m : Int) < 18446744073709551616 := by omega
  have hm9 : x + (m : Int) < 18446744073709551616 := by omega
  have hbt : b - x = (t : Int) := by omega
  have hb0 : 0 ≤ b := by omega
  have hxb : x ≤ b := by omega
  have hwt : IntKind.u64.wrap (t : Int) = (t : Int) := IntWalk.u64_in _ (by omega)
  have hbe : b ≤ e := by omega
  have htm' : (t : Int) < m := by omega
  have hone : (e - b == 1) = true := by simp; omega
  have HHH := Lib.hid (And.intro hb (And.intro he (And.intro he2 htm)))
  clear cw0 cw1 hb he he2 htm
  go_enter Tryz.func29, Tryz.ntmps29
  go_upto_region 1 with fail
  rw [HWV.out]
  go_quiet (fail)
  obtain ⟨wq, hwq⟩ : ∃ wq, wv.drewN nq = wq := ⟨_, rfl⟩
  have hqv : ∀ j : Nat, wq.heap[j]? = wv.heap[j]? := fun j => by rw [← hwq]; rfl
  have HQB : Hid (Below (w.heap.size + 1 + 1) wv wq) := Lib.hid (by rw [← hwq]; exact below_drewN (Below.refl _ _))
  have HBq : Hid (Below w.heap.size w wq) := Lib.hid (by rw [← hwq]; exact below_drewN HBv.out)
  have HQ2 : Hid (wq.heap[(w.heap.size + 1 + 1)]? = some (.cells vz 75 (0, 0))) := Lib.hid ((hqv _).trans G2.out)
  have KR : Hid (∀ w', Below (w.heap.size + 1 + 1) wv w' → w'.rangeAt g (o + t * 32) pp) := Lib.hid (fun w' h => KR0.out w' (HBv.out.trans (h.mono (by omega))))
  have HSQ : Hid (wq.heap.size = wv.heap.size) := Lib.hid (by rw [← hwq]; rfl)
  have HQV := Lib.hid hqv
  have q0 : wq.cell? ⟨w.heap.size, 0, none⟩ = some (.int .u64 b) := by rw [← hwq]; exact s0
  have q1 : wq.cell? ⟨w.heap.size, 1, none⟩ = some (.int .u64 e) := by rw [← hwq]; exact s1
  have hq0 : w.heap.size < wq.heap.size := by have := HSQ.out; omega
  rw [hwq]
  clear hwq c0 c1 s0 s1 hqv
  go_wp2_with fail
  refine wp_region_held_drew (S := Below (w.heap.size + 1 + 1) wv) (by kernel_rfl) ((show Below (w.heap.size + 1 + 1) wv wq from HQB.out).drew) (fun hHeld => ?_)
  refine wpAnyH_take (i := 0) (v := ?tv1) rfl (by kernel_rfl) (by kernel_rfl) (by kernel_rfl) (fun _ _ _ h => h) (Or.inl ⟨by rfl, ?ty1⟩) (by assumption) ?tr1
  case ty1 => (intro w hSw; (try dsimp only at hSw); go_simp; (try with_reducible rfl))
  try simp only [Act.put, List.getElem_toArray, List.getElem_cons_zero, List.setIfInBounds_toArray, List.set_cons_zero, List.set_cons_succ]
  refine wpAnyH_take (i := 1) (v := ?tv2) rfl (by kernel_rfl) (by kernel_rfl) (by kernel_rfl) (fun _ _ _ h => h) (Or.inl ⟨by rfl, ?ty2⟩) (by assumption) ?tr2
  case ty2 => (intro w hSw; (try dsimp only at hSw); go_simp; (try with_reducible rfl))
  try simp only [Act.put, List.getElem_toArray, List.getElem_cons_zero, List.getElem_cons_succ, List.setIfInBounds_toArray, List.set_cons_zero, List.set_cons_succ]
  refine wpAnyH_take (i := 2) (v := ?tv3) rfl (by kernel_rfl) (by kernel_rfl) (by kernel_rfl) (fun _ _ _ h => h) (Or.inl ⟨by rfl, ?ty3⟩) (by assumption) ?tr3
  case ty3 => (intro w hSw; (try dsimp only at hSw); go_simp; (try with_reducible rfl))
  try simp only [Act.put, List.getElem_toArray, List.getElem_cons_zero, List.getElem_cons_succ, List.setIfInBounds_toArray, List.set_cons_zero, List.set_cons_succ]
  refine wpAnyH_take (i := 3) (v := ?tv4) rfl (by kernel_rfl) (by kernel_rfl) (by kernel_rfl) (fun _ _ _ h => h) (Or.inl ⟨by rfl, ?ty4⟩) (by assumption) ?tr4
  case ty4 => (intro w hSw; (try dsimp only at hSw); have q9 := cell_below hSw CC.out.2.1 (by have := HWL.out; omega); go_simp; (try with_reducible rfl))
  try simp only [Act.put, List.getElem_toArray, List.getElem_cons_zero, List.getElem_cons_succ, List.setIfInBounds_toArray, List.set_cons_zero, List.set_cons_succ]
  refine wpAnyH_take (i := 4) (v := ?tv5) rfl (by kernel_rfl) (by kernel_rfl) (by kernel_rfl) (fun _ _ _ h => h) (Or.inl ⟨by rfl, ?ty5⟩) (by assumption) ?tr5
  case ty5 => (intro w hSw; (try dsimp only at hSw); go_simp; (try with_reducible rfl))
  try simp only [Act.put, List.getElem_toArray, List.getElem_cons_zero, List.getElem_cons_succ, List.setIfInBounds_toArray, List.set_cons_zero, List.set_cons_succ]
  refine wpAnyH_take (i := 5) (v := ?tv6) rfl (by kernel_rfl) (by kernel_rfl) (by kernel_rfl) (fun _ _ _ h => h) (Or.inl ⟨by rfl, ?ty6⟩) (by assumption) ?tr6
  case ty6 => (intro w hSw; (try dsimp only at hSw); have q9 := cell_below hSw CC.out.2.2 (by omega); go_simp; (try with_reducible rfl))
  try simp only [Act.put, List.getElem_toArray, List.getElem_cons_zero, List.getElem_cons_succ, List.setIfInBounds_toArray, List.set_cons_zero, List.set_cons_succ]
  refine wpAnyH_take (i := 6) (v := ?tv7) rfl (by kernel_rfl) (by kernel_rfl) (by kernel_rfl) (fun _ _ _ h => h) (Or.inl ⟨by rfl, ?ty7⟩) (by assumption) ?tr7
  case ty7 => (intro w hSw; (try dsimp only at hSw); go_simp; (try with_reducible rfl))
  try simp only [Act.put, List.getElem_toArray, List.getElem_cons_zero, List.getElem_cons_succ, List.setIfInBounds_toArray, List.set_cons_zero, List.set_cons_succ]
  refine wpAnyH_take (i := 7) (v := ?tv8) rfl (by kernel_rfl) (by kernel_rfl) (by kernel_rfl) (fun _ _ _ h => h) (Or.inl ⟨by rfl, ?ty8⟩) (by assumption) ?tr8
  case ty8 => (intro w hSw; (try dsimp only at hSw); go_simp; (try with_reducible rfl))
  try simp only [Act.put, List.getElem_toArray, List.getElem_cons_zero, List.getElem_cons_succ, List.setIfInBounds_toArray, List.set_cons_zero, List.set_cons_succ]
  refine wpAnyH_take (i := 8) (v := ?tv9) rfl (by kernel_rfl) (by kernel_rfl) (by kernel_rfl) (fun _ _ _ h => h) (Or.inl ⟨by rfl, ?ty9⟩) (by assumption) ?tr9
  case ty9 => (intro w hSw; (try dsimp only at hSw); go_simp; (try with_reducible rfl))
  try simp only [Act.put, List.getElem_toArray, List.getElem_cons_zero, List.getElem_cons_succ, List.setIfInBounds_toArray, List.set_cons_zero, List.set_cons_succ]
  refine wpAnyH_take (i := 9) (v := ?tv10) rfl (by kernel_rfl) (by kernel_rfl) (by kernel_rfl) (fun _ _ _ h => h) (Or.inl ⟨by rfl, ?ty10⟩) (by assumption) ?tr10
  case ty10 => (intro w hSw; (try dsimp only at hSw); have q9 := cell_below hSw CC.out.1 (by have := HWL.out; omega); go_simp; (try with_reducible rfl))
  try simp only [Act.put, List.getElem_toArray, List.getElem_cons_zero, List.getElem_cons_succ, List.setIfInBounds_toArray, List.set_cons_zero, List.set_cons_succ]
  refine wpAnyH_take (i := 10) (v := ?tv11) rfl (by kernel_rfl) (by kernel_rfl) (by kernel_rfl) (fun _ _ _ h => h) (Or.inl ⟨by rfl, ?ty11⟩) (by assumption) ?tr11
  case ty11 => (intro w hSw; (try dsimp only at hSw); go_simp; (try with_reducible rfl))
  try simp only [Act.put, List.getElem_toArray, List.getElem_cons_zero, List.getElem_cons_succ, List.setIfInBounds_toArray, List.set_cons_zero, List.set_cons_succ]
  refine wpAnyH_take (i := 11) (v := ?tv12) rfl (by kernel_rfl) (by kernel_rfl) (by kernel_rfl) (fun _ _ _ h => h) (Or.inl ⟨by rfl, ?ty12⟩) (by assumption) ?tr12
  case ty12 => (intro w hSw; (try dsimp only at hSw); go_simp; (try with_reducible rfl))
  try simp only [Act.put, List.getElem_toArray, List.getElem_cons_zero, List.getElem_cons_succ, List.setIfInBounds_toArray, List.set_cons_zero, List.set_cons_succ]
  refine wpAnyH_take (i := 12) (v := _) rfl (by kernel_rfl) (by kernel_rfl) (by kernel_rfl) (fun _ _ _ h => h) (yieldsIf_load_mid (by rfl) 75 _ (by rfl) g (o + t * 32) (by rfl) pp _ (fun w h => KR.out w h) Tryz.underlying75 (by rfl) IP.out) (by assumption) ?_
  try simp only [Act.put, List.getElem_toArray, List.getElem_cons_zero, List.getElem_cons_succ, List.setIfInBounds_toArray, List.set_cons_zero, List.set_cons_succ]
  refine wpAnyH_ready (rs := [13]) (by kernel_rfl) (by simp) ?_
  refine AllReadyH.cons (i := 13) rfl (fun K2 hK2 => ?_) AllReadyH.nil
  rw [if_pos (by rfl)]
  rw [PV.out]
  refine wp_store_row 75 _ _ rfl (w.heap.size + 1 + 1) vp rfl rfl 75 _ HQ2.out Ivp.out (by rw [Zvz.out, Zvp.out]) Ovp.out ?_
  refine hK2.out _ _ (show Below (w.heap.size + 1 + 1) wv _ from below_setRow hHeld _ _ (by omega)) (fun hHeld2 => ?_)
  clear hK2 K2
  try simp only [Act.put, List.getElem_toArray, List.getElem_cons_zero, List.getElem_cons_succ]
  refine wpAnyH_done (by kernel_rfl) ?_ _
  obtain ⟨wt, hwt⟩ : ∃ x, wq.drew.setRow (w.heap.size + 1 + 1) vp = x := ⟨_, rfl⟩
  have hst : ∀ j : Nat, j ≠ (w.heap.size + 1 + 1) → wt.heap[j]? = wv.heap[j]? := fun j hj => by rw [← hwt, setRow_other _ _ _ _ hj]; exact HQV.out j
  have T6 : Hid (wt.heap[(w.heap.size + 1 + 1)]? = some (.cells vp 75 (0, 0))) := Lib.hid (by rw [← hwt]; exact setRow_heap _ _ _ _ _ _ HQ2.out)
  have T8 : Hid (wt.heap[(w.heap.size + 1 + 1 + 1)]? = some (.cells vz 75 (0, 0))) := Lib.hid ((hst _ (by omega)).trans G3.out)
  have HBs : Hid (Below w.heap.size w wt) := Lib.hid (by rw [← hwt]; exact below_setRow HBq.out.drew _ _ (by omega))
  have HGT : Hid (GAt wt W x (.slice (some ⟨g, o, none⟩) m cap) pv k) := Lib.hid ((HBs.out.block W HWL.out).trans HW.out)
  have HBT : Hid (But (· = W) w wt) := Lib.hid (But.new HBs.out)
  have TZ : Hid (w.heap.size + 3 < wt.heap.size) := Lib.hid (by rw [← hwt]; simp; have := HSQ.out; have := HSV.out; omega)
  have a0 : wt.cell? ⟨w.heap.size, 0, none⟩ = some (.int .u64 b) := by rw [cell_of_row wt w.heap.size 0 _ 101 (0, 0) ((hst w.heap.size (by omega)).trans G0.out)]; rfl
  have a1 : wt.cell? ⟨w.heap.size, 1, none⟩ = some (.int .u64 e) := by rw [cell_of_row wt w.heap.size 1 _ 101 (0, 0) ((hst w.heap.size (by omega)).trans G0.out)]; rfl
  have a2 : wt.cell? ⟨w.heap.size + 1, 0, none⟩ = some (.int .u64 p) := by rw [cell_of_row wt (w.heap.size + 1) 0 _ 101 (0, 0) ((hst (w.heap.size + 1) (by omega)).trans G1.out)]; rfl
  have a3 : wt.cell? ⟨w.heap.size + 1, 1, none⟩ = some (.int .u64 q) := by rw [cell_of_row wt (w.heap.size + 1) 1 _ 101 (0, 0) ((hst (w.heap.size + 1) (by omega)).trans G1.out)]; rfl
  have hz0 : w.heap.size < wt.heap.size := by have := TZ.out; omega
  have hz1 : w.heap.size + 1 < wt.heap.size := by have := TZ.out; omega
  rw [hwt]
  clear hwt hst q0 q1 hq0
  go_upto_region 16 with fail
  by_cases hpq : b = p ∧ e = q
  · obtain ⟨rfl, rfl⟩ := hpq
    go_wp2_with (first
      | (refine wpList_load_row rfl 75 _ rfl (w.heap.size + 1 + 1) rfl 75 vp (0, 0) _ T6.out Tryz.underlying75 rfl Ivp.out ?_)
      | (refine wpList_store_row rfl 75 _ _ rfl (w.heap.size + 1 + 1) vp rfl rfl 75 _ T6.out Ivp.out rfl Ovp.out ?_)
      | (refine wpList_store_row rfl 75 _ _ rfl (w.heap.size + 1 + 1 + 1) vp rfl rfl 75 _ ((setRow_other _ _ _ _ (by omega)).trans T8.out) Ivp.out (by rw [Zvz.out, Zvp.out]) Ovp.out ?_))
    refine bodyPost_ret (v := .tuple #[.agg vp, .bool true, .agg vp]) (results_row_tmp_row rfl _ _ (w.heap.size + 1 + 1) (w.heap.size + 1 + 1 + 1) 75 75 vp vp (0, 0) (0, 0) _ rfl ((setRow_other _ _ _ _ (by omega)).trans (setRow_heap _ _ _ _ _ _ T6.out)) rfl (setRow_heap _ _ _ _ _ _ ((setRow_other _ _ _ _ (by omega)).trans T8.out)) Tryz.underlying75 rfl Ivp.out Ivp.out _ rfl) rfl ?_
    exact ⟨by (try rw [if_pos ⟨rfl, rfl⟩]); unfold saidV; rw [Option.isSome_some, Option.getD_some, EVP.out], gat_end HGT.out HBT.out HWL.out (((But.refl _ wt).setRow (w.heap.size + 1 + 1) vp (fun _ => by omega)).setRow (w.heap.size + 1 + 1 + 1) vp (fun _ => by omega))⟩
  · have hne : (b == p && e == q) = false := by
      rw [Bool.and_eq_false_iff]
      by_cases h : b = p
      · right; simp; intro h2; exact hpq ⟨h, h2⟩
      · left; simp; exact h
    have hqs : ∀ w, (Op.equalIn 10000 101 (.agg #[.int .u64 b, .int .u64 e]) (.agg #[.int .u64 p, .int .u64 q])).run Tryz.prog w = .ok false w := fun w => by rw [eq_span, hne]
    have HPQ := Lib.hid hpq
    clear hpq hne
    go_wp2_with fail
    refine wp_region_held_drew (S := Gr wt) (by kernel_rfl) ((Gr.refl _).drew) (fun hHeld => ?_)
    refine wpAnyH_take (i := 0) (v := _) rfl (by kernel_rfl) (by kernel_rfl) (by kernel_rfl) (fun _ _ _ h => h) (yieldsIf_load_row (by rfl) 75 _ (by rfl) (w.heap.size + 1 + 1) (by rfl) 75 vp (0, 0) _ (fun w h => (Below.block h _ (by have := TZ.out; omega)).trans T6.out) Tryz.underlying75 rfl Ivp.out) (by assumption) ?_
    try simp only [Act.put, List.getElem_toArray, List.getElem_cons_zero, List.setIfInBounds_toArray, List.set_cons_zero, List.set_cons_succ]
    refine wpAnyH_take (i := 1) (v := ?tv15) rfl (by kernel_rfl) (by kernel_rfl) (by kernel_rfl) (fun _ _ _ h => h) (Or.inl ⟨by rfl, ?ty15⟩) (by assumption) ?tr15
    case ty15 => (intro w hSw; (try dsimp only at hSw); go_simp; (try with_reducible rfl))
    try simp only [Act.put, List.getElem_toArray, List.getElem_cons_zero, List.getElem_cons_succ, List.setIfInBounds_toArray, List.set_cons_zero, List.set_cons_succ]
    refine wpAnyH_take (i := 2) (v := _) rfl (by kernel_rfl) (by kernel_rfl) (by kernel_rfl) (fun _ _ _ h => h) (yieldsIf_load_row (by rfl) 75 _ (by rfl) (w.heap.size + 1 + 1 + 1) (by rfl) 75 vz (0, 0) _ (fun w h => (Below.block h _ (by have := TZ.out; omega)).trans T8.out) Tryz.underlying75 rfl Ivz.out) (by assumption) ?_
    try simp only [Act.put, List.getElem_toArray, List.getElem_cons_zero, List.getElem_cons_succ, List.setIfInBounds_toArray, List.set_cons_zero, List.set_cons_succ]
    refine wpAnyH_ready (rs := [3]) (by kernel_rfl) (by simp) ?_
    refine AllReadyH.cons (i := 3) rfl (fun K2 hK2 => ?_) AllReadyH.nil
    rw [if_pos (by rfl)]
    refine wp_store_row 75 _ _ rfl (w.heap.size + 1 + 1) vp rfl rfl 75 _ ((Below.block (show Gr wt wt.drew from (Gr.drew (Gr.refl _))) _ (by have := TZ.out; omega)).trans T6.out) Ivp.out rfl Ovp.out ?_
    refine hK2.out _ _ (show Gr wt _ from (gr_setRow_same (Gr.drew (Gr.refl _)) T6.out)) (fun hHeld2 => ?_)
    clear hK2 K2
    try simp only [Act.put, List.getElem_toArray, List.getElem_cons_zero, List.getElem_cons_succ]
    refine wpAnyH_take (i := 4) (v := ?tv17) rfl (by kernel_rfl) (by kernel_rfl) (by kernel_rfl) (fun _ _ _ h => h) (Or.inl ⟨by rfl, ?ty17⟩) (by assumption) ?tr17
    case ty17 => (intro w hSw; (try dsimp only at hSw); go_simp; (try with_reducible rfl))
    try simp only [Act.put, List.getElem_toArray, List.getElem_cons_zero, List.getElem_cons_succ, List.setIfInBounds_toArray, List.set_cons_zero, List.set_cons_succ]
    refine wpAnyH_ready (rs := [5]) (by kernel_rfl) (by simp) ?_
    refine AllReadyH.cons (i := 5) rfl (fun K2 hK2 => ?_) AllReadyH.nil
    rw [if_pos (by rfl)]
    refine wp_store_row 75 _ _ rfl (w.heap.size + 1 + 1 + 1) vz rfl rfl 75 _ ((Below.block (show Gr wt (wt.drew.setRow (w.heap.size + 1 + 1) vp) from (gr_setRow_same (Gr.drew (Gr.refl _)) T6.out)) _ (by have := TZ.out; omega)).trans T8.out) Ivz.out rfl Ovz.out ?_
    refine hK2.out _ _ (show Gr wt _ from (gr_setRow_same (gr_setRow_same (Gr.drew (Gr.refl _)) T6.out) T8.out)) (fun hHeld2 => ?_)
    clear hK2 K2
    try simp only [Act.put, List.getElem_toArray, List.getElem_cons_zero, List.getElem_cons_succ]
    refine wpAnyH_done (by kernel_rfl) ?_ _
    obtain ⟨we, hwe⟩ : ∃ x, ((wt.drew.setRow (w.heap.size + 1 + 1) vp).setRow (w.heap.size + 1 + 1 + 1) vz) = x := ⟨_, rfl⟩
    have HGE : Hid (Gr wt we) := Lib.hid (by rw [← hwe]; exact (gr_setRow_same (gr_setRow_same (Gr.drew (Gr.refl _)) T6.out) T8.out))
    rw [hwe]
    clear hwe hHeld hHeld2 hqs a0 a1 a2 a3
    apply (by assumption : ∀ (a : Act) (w : World), Code.wp Tryz.prog Code.ret _ a w → _)
    apply wp_ret
    refine bodyPost_ret (v := .tuple #[.agg vp, .bool false, .agg vz]) (results_row_tmp_row rfl _ _ (w.heap.size + 1 + 1) (w.heap.size + 1 + 1 + 1) 75 75 vp vz (0, 0) (0, 0) _ rfl ((Below.block HGE.out _ (by have := TZ.out; omega)).trans T6.out) rfl ((Below.block HGE.out _ (by have := TZ.out; omega)).trans T8.out) Tryz.underlying75 rfl Ivp.out Ivz.out _ rfl) rfl ?_
    exact ⟨by rw [if_neg HPQ.out]; unfold saidV; rw [Option.isSome_none, Option.getD_none, EVP.out, zeroH_v, EVZ.out], gat_end HGT.out HBT.out HWL.out (But.new HGE.out)⟩
end Go.Proofs.YtchfbdbgmlcfiaaGreatDoor

/- cartularyref19.Given.says: what is said of a stretch of two halves. No condition. -/
namespace Go.Proofs.YtchfbdbgmlcfiaaGreatDoor
open Go.ChangeShapes Go.WideShapes Go.ChangeAt Go.RowKit
set_option linter.unusedVariables false
/-- a call of says that has said h, and o of the stretch that is asked for; k hashes are taken by then -/
def RP (W : Nat) (x : Int) (lv pv : Value) (k : Nat) (h : List UInt8) (o : Option (List UInt8)) (w : World) (ev : Ending) (w' : World) : Prop := ev = .returned (saidV h o) ∧ GAt w' W x lv pv k ∧ But (· = W) w w'
theorem said_open (o : Option (List UInt8)) (lo : ∀ h, o = some h → h.length = 32) : ∃ (f : Bool) (v : Array Value), o.isSome = f ∧ hv (o.getD zeroH) = .agg v ∧ Hid (v.size = 32) ∧ Hid ((Tryz.prog.info? 75).map (·.size) = some v.size) ∧ Hid (v.all (·.oneCell') = true) := by
  have hl : (o.getD zeroH).length = 32 := by
    cases o with
    | none => exact zeroH_length
    | some h => exact lo h rfl
  obtain ⟨v, h1, _, h2, h3, h4⟩ := row_of _ hl
  exact ⟨_, v, rfl, h1, h2, h3, h4⟩
set_option maxRecDepth 100000 in
set_option maxHeartbeats 8000000 in
theorem rsays_node (W k k1 k2 n lcap : Nat) (lA : Option Addr) (pv : Value) (x b e m p q : Int) (h1 h2 : List UInt8) (o1 o2 : Option (List UInt8)) (w : World) (hW : GAt w W x (.slice lA n lcap) pv k) (hx0 : 0 ≤ x) (hn : n ≤ 9223372036854775807) (hb : 0 ≤ b) (hem : e ≤ 9223372036854775808) (hxe : x < e) (hyb : b < x + n) (hbe2 : 2 ≤ e - b) (hm : b + blwI (e - b) = m)
    (l1 : h1.length = 32) (l2 : h2.length = 32) (lo1 : ∀ h, o1 = some h → h.length = 32) (lo2 : ∀ h, o2 = some h → h.length = 32)
    (H1 : ∀ w', But (· = W) w w' → GAt w' W x (.slice lA n lcap) pv k → Calls Tryz.prog 29 #[.pointer (some ⟨W, 0, none⟩), .agg #[.int .u64 b, .int .u64 m], .agg #[.int .u64 p, .int .u64 q]] w' (RP W x (.slice lA n lcap) pv k1 h1 o1 w'))
    (H2 : ∀ w', But (· = W) w w' → GAt w' W x (.slice lA n lcap) pv k1 → Calls Tryz.prog 29 #[.pointer (some ⟨W, 0, none⟩), .agg #[.int .u64 m, .int .u64 e], .agg #[.int .u64 p, .int .u64 q]] w' (RP W x (.slice lA n lcap) pv k2 h2 o2 w')) :
    Calls Tryz.prog 29 #[.pointer (some ⟨W, 0, none⟩), .agg #[.int .u64 b, .int .u64 e], .agg #[.int .u64 p, .int .u64 q]] w (RP W x (.slice lA n lcap) pv k2 (nodeH h1 h2) (if b = p ∧ e = q then some (nodeH h1 h2) else o2.or o1) w) := by
  obtain ⟨va, eva, Hva, Zva, Iva, Ova⟩ := row_of h1 l1
  obtain ⟨vb, evb, Hvb, Zvb, Ivb, Ovb⟩ := row_of h2 l2
  obtain ⟨vn, evn, Hvn, Zvn, Ivn, Ovn⟩ := row_of (nodeH h1 h2) (nodeH_length _ _)
  obtain ⟨f1, vao, ef1, evao, Zvao, Ivao, Ovao⟩ := said_open o1 lo1
  obtain ⟨f2, vbo, ef2, evbo, Zvbo, Ivbo, Ovbo⟩ := said_open o2 lo2
  have HN : Hid (∀ w, Calls Tryz.prog 101 #[.agg va, .agg vb] w fun ev w' => ev = .returned (.agg vn) ∧ Below w.heap.size w w') := Lib.hid (fun w => by
    have := refnode_any h1 h2 w l1 l2
    rw [eva, evb, evn] at this; exact this)
  have ES1 : saidV h1 o1 = .tuple #[.agg va, .bool f1, .agg vao] := by unfold saidV; rw [eva, ef1, evao]
  have ES2 : saidV h2 o2 = .tuple #[.agg vb, .bool f2, .agg vbo] := by unfold saidV; rw [evb, ef2, evbo]
  unfold RP at H1 H2 ⊢
  rw [ES1] at H1
  rw [ES2] at H2
  have C1 := Lib.hid H1
  have C2 := Lib.hid H2
  have EVN := Lib.hid evn
  have EF := Lib.hid (And.intro ef1 (And.intro ef2 (And.intro evao evbo)))
  have HM := Lib.hid hm
  have hbd := blwI_bd (n := e - b) hbe2
  have hw1 : IntKind.u64.wrap (b + blwI (e - b)) = m := by rw [hm]; exact IntWalk.u64_in _ (by omega)
  have HMB : Hid (b < m ∧ m < e) := Lib.hid (by omega)
  have cw0 : w.cell? ⟨W, 0, none⟩ = some (.int .u64 x) := by rw [cell_of_row w W 0 _ 97 (0, 0) hW]; rfl
  have cw1 : w.cell? ⟨W, 1, none⟩ = some (.slice lA n lcap) := by rw [cell_of_row w W 1 _ 97 (0, 0) hW]; rfl
  have hd : decide (e ≤ x) = false := by simp; omega
  have hdd : decide (x + (n : Int) ≤ b) = false := by simp; omega
  have hm8 : (n : Int) < 18446744073709551616 := by omega
  have hm9 : x + (n : Int) < 18446744073709551616 := by omega
  have hbe : b ≤ e := by omega
  have hone : (e - b == 1) = false := by simp; omega
  have HSP : Hid (∀ w, Calls Tryz.prog 108 #[.int .u64 (e - b)] w fun ev w' => ev = .returned (.tuple #[.int .u64 (blwI (e - b)), .bool true]) ∧ w = w') := Lib.hid (fun w => refsplit_yes (e - b) w hbe2 (by omega))
  clear H1 H2 ES1 ES2 eva evb evn ef1 ef2 evao evbo hm hbd lo1 lo2 hxe hyb hbe2
  have hbx : (Tryz.prog.info? 101).map (·.size) = some 2 := by kernel_rfl
  obtain ⟨vz, evz, Hvz, Zvz, Ivz, Ovz⟩ := row_of zeroH zeroH_length
  rw [zeroH_v] at evz
  obtain ⟨wv, hwv⟩ : ∃ x, (((w.alloc (.cells #[.int .u64 b, .int .u64 e] 101)).alloc (.cells #[.int .u64 p, .int .u64 q] 101)).alloc (.cells (List.replicate 32 (Value.int .u8 0)).toArray 75)).alloc (.cells (List.replicate 32 (Value.int .u8 0)).toArray 75) = x := ⟨_, rfl⟩
  have hBv : Below w.heap.size w wv := by rw [← hwv]; exact ((((Below.refl _ _).alloc (Nat.le_refl _) _).alloc (by simp) _).alloc (by simp; omega) _).alloc (by simp; omega) _
  have hsv : wv.heap.size = w.heap.size + 1 + 1 + 1 + 1 := by rw [← hwv]; simp
  have hg3 : wv.heap[(w.heap.size + 1 + 1 + 1)]? = some (.cells vz 75 (0, 0)) := by rw [← hwv, ← Value.agg.inj evz]; exact heap_at _ _ _ (by simp)
  have hg2 : wv.heap[(w.heap.size + 1 + 1)]? = some (.cells vz 75 (0, 0)) := by rw [← hwv, ← Value.agg.inj evz, ((Below.refl _ _).alloc (Nat.le_refl _) _).block _ (by simp)]; exact heap_at _ _ _ (by simp)
  have hg1 : wv.heap[w.heap.size + 1]? = some (.cells #[.int .u64 p, .int .u64 q] 101 (0, 0)) := by
    rw [← hwv, ((((Below.refl _ _).alloc (Nat.le_refl _) _).alloc (by simp) _)).block _ (by simp)]; exact heap_at _ _ _ (by simp)
  have hg0 : wv.heap[w.heap.size]? = some (.cells #[.int .u64 b, .int .u64 e] 101 (0, 0)) := by
    rw [← hwv, (((((Below.refl _ _).alloc (Nat.le_refl _) _).alloc (by simp) _)).alloc (by simp; try omega) _).block _ (by simp; try omega)]; exact heap_at _ _ _ rfl
  have HBv := Lib.hid hBv
  have HWV := Lib.hid hwv
  simp only [List.replicate, List.toArray] at HWV
  have HSV := Lib.hid hsv
  have G0 := Lib.hid hg0
  have G1 := Lib.hid hg1
  have G2 := Lib.hid hg2
  have G3 := Lib.hid hg3
  have EVZ := Lib.hid evz
  have hWl : W < w.heap.size := (Array.getElem?_eq_some_iff.1 hW).1
  have HW := Lib.hid hW
  have HWL := Lib.hid hWl
  clear hwv hBv hsv hg0 hg1 hg2 hg3 evz hW hWl
  have c0 := cell_below HBv.out cw0 HWL.out
  have c1 := cell_below HBv.out cw1 HWL.out
  have s0 : wv.cell? ⟨w.heap.size, 0, none⟩ = some (.int .u64 b) := by rw [cell_of_row wv w.heap.size 0 _ 101 (0, 0) ((Below.refl wv.heap.size wv).block _ (by have := HSV.out; omega) |>.trans G0.out)]; rfl
  have s1 : wv.cell? ⟨w.heap.size, 1, none⟩ = some (.int .u64 e) := by rw [cell_of_row wv w.heap.size 1 _ 101 (0, 0) ((Below.refl wv.heap.size wv).block _ (by have := HSV.out; omega) |>.trans G0.out)]; rfl
  have hsw : w.heap.size < wv.heap.size := by have := HSV.out; omega
  have hWv : W < wv.heap.size := by have := HWL.out; omega
  clear cw0 cw1
  go_enter Tryz.func29, Tryz.ntmps29
  go_upto_region 1 with fail
  rw [HWV.out]
  go_quiet (fail)
  obtain ⟨wq, hwq⟩ : ∃ wq, wv.drewN nq = wq := ⟨_, rfl⟩
  have hqv : ∀ j : Nat, wq.heap[j]? = wv.heap[j]? := fun j => by rw [← hwq]; rfl
  have HBq : Hid (Below w.heap.size w wq) := Lib.hid (by rw [← hwq]; exact below_drewN HBv.out)
  have HSQ : Hid (wq.heap.size = w.heap.size + 1 + 1 + 1 + 1) := Lib.hid (by rw [← hwq]; exact HSV.out)
  have HQV := Lib.hid hqv
  have a0 : wq.cell? ⟨w.heap.size, 0, none⟩ = some (.int .u64 b) := by rw [← hwq]; exact s0
  have a1 : wq.cell? ⟨w.heap.size, 1, none⟩ = some (.int .u64 e) := by rw [← hwq]; exact s1
  have a2 : wq.cell? ⟨w.heap.size + 1, 0, none⟩ = some (.int .u64 p) := by rw [cell_of_row wq (w.heap.size + 1) 0 _ 101 (0, 0) ((hqv _).trans G1.out)]; rfl
  have a3 : wq.cell? ⟨w.heap.size + 1, 1, none⟩ = some (.int .u64 q) := by rw [cell_of_row wq (w.heap.size + 1) 1 _ 101 (0, 0) ((hqv _).trans G1.out)]; rfl
  have hz0 : w.heap.size < wq.heap.size := by have := HSQ.out; omega
  have hz1 : w.heap.size + 1 < wq.heap.size := by have := HSQ.out; omega
  rw [hwq]
  clear hwq c0 c1 s0 s1 hqv hsw hWv hm8 hm9
  go_wp2_with fail
  refine (HSP.out wq).mono ?_
  rintro ev w6 ⟨rfl, rfl⟩
  go_wp2_with fail
  refine (C1.out wq (But.new HBq.out) ((HBq.out.block W HWL.out).trans HW.out)).mono ?_
  rintro ev w1 ⟨rfl, g1, bq1⟩
  have G1W := Lib.hid g1
  have BQ1 := Lib.hid bq1
  have HS1 : Hid (w.heap.size + 4 ≤ w1.heap.size) := Lib.hid (by have := bq1.size; have := HSQ.out; omega)
  clear g1 bq1 a0 a1 a2 a3 hz0 hz1 hw1
  go_upto_region 8 with (first
    | (refine wpList_store_row_any rfl 75 _ _ rfl w1.heap.size va rfl rfl 75 _ ((((Below.refl _ (w1.alloc _)).alloc (Nat.le_refl _) _).block _ (by simp)).trans (heap_at _ _ _ rfl)) Iva.out (by rw [Zva.out]; rfl) Ova.out ?_; intro w2a hbA1 hgA1 hsA1; have BA1 := Lib.hid hbA1; have GA1 := Lib.hid hgA1; have SA1 : Hid (w2a.heap.size = w1.heap.size + 1 + 1) := Lib.hid (hsA1.trans (by simp)); clear hbA1 hgA1 hsA1)
    | (refine wpList_store_row_any rfl 75 _ _ rfl (w1.heap.size + 1) vao rfl rfl 75 _ ((BA1.out.same _ (by simp) (by omega)).trans (heap_at _ _ _ (by simp))) Ivao.out (by rw [Zvao.out]; rfl) Ovao.out ?_; intro w2 hbB1 hgB1 hsB1; have BB1 := Lib.hid hbB1; have GB1 := Lib.hid hgB1; have SB1 : Hid (w2.heap.size = w1.heap.size + 1 + 1) := Lib.hid (hsB1.trans SA1.out); clear hbB1 hgB1 hsB1))
  have B1 : Hid (Below w1.heap.size w1 w2) := Lib.hid ((((Below.refl _ _).alloc (Nat.le_refl _) _).alloc (by simp) _).trans (((BA1.out.mono (T := fun k => k = w1.heap.size ∨ k = w1.heap.size + 1) (fun _ _ q => .inl q)).step BB1.out (fun _ _ q => .inr q)).to_below (by simp; omega) (fun k hk q => by omega)))
  have RA : Hid (w2.heap[w1.heap.size]? = some (.cells va 75 (0, 0))) := Lib.hid ((BB1.out.same _ (by have := SA1.out; omega) (by omega)).trans GA1.out)
  have RAO := GB1
  have HS2 : Hid (w2.heap.size = w1.heap.size + 1 + 1) := SB1
  clear GA1 GB1 SA1 SB1 BA1 BB1
  have KQ : Hid (∀ j, w.heap.size ≤ j → j < w.heap.size + 4 → w2.heap[j]? = wv.heap[j]?) := Lib.hid (fun j h1 h2 => (B1.out.block j (by have := HS1.out; omega)).trans ((BQ1.out.same j (by have := HSQ.out; omega) (by have := HWL.out; omega)).trans (HQV.out j)))
  have HB2 : Hid (But (· = W) w w2) := Lib.hid (((But.new HBq.out).trans BQ1.out).below B1.out)
  have G2W : Hid (GAt w2 W x (.slice lA n lcap) pv k1) := Lib.hid ((B1.out.block W (by have := HS1.out; have := HWL.out; omega)).trans G1W.out)
  have a0 : w2.cell? ⟨w.heap.size, 0, none⟩ = some (.int .u64 b) := by rw [cell_of_row w2 w.heap.size 0 _ 101 (0, 0) ((KQ.out w.heap.size (by omega) (by omega)).trans G0.out)]; rfl
  have a1 : w2.cell? ⟨w.heap.size, 1, none⟩ = some (.int .u64 e) := by rw [cell_of_row w2 w.heap.size 1 _ 101 (0, 0) ((KQ.out w.heap.size (by omega) (by omega)).trans G0.out)]; rfl
  have a2 : w2.cell? ⟨w.heap.size + 1, 0, none⟩ = some (.int .u64 p) := by rw [cell_of_row w2 (w.heap.size + 1) 0 _ 101 (0, 0) ((KQ.out (w.heap.size + 1) (by omega) (by omega)).trans G1.out)]; rfl
  have a3 : w2.cell? ⟨w.heap.size + 1, 1, none⟩ = some (.int .u64 q) := by rw [cell_of_row w2 (w.heap.size + 1) 1 _ 101 (0, 0) ((KQ.out (w.heap.size + 1) (by omega) (by omega)).trans G1.out)]; rfl
  have hz0 : w.heap.size < w2.heap.size := by have := HS2.out; have := HS1.out; omega
  have hz1 : w.heap.size + 1 < w2.heap.size := by have := HS2.out; have := HS1.out; omega
  have hw1 : IntKind.u64.wrap (b + blwI (e - b)) = m := by rw [HM.out]; exact IntWalk.u64_in _ (by have := HMB.out; omega)
  go_wp2_with fail
  refine (C2.out w2 HB2.out G2W.out).mono ?_
  rintro ev w3 ⟨rfl, g3, b23⟩
  have G3W := Lib.hid g3
  have BQ3 := Lib.hid b23
  have HS3 : Hid (w1.heap.size + 2 ≤ w3.heap.size) := Lib.hid (by have := b23.size; have := HS2.out; omega)
  have RA3 : Hid (w3.heap[w1.heap.size]? = some (.cells va 75 (0, 0))) := Lib.hid ((b23.same _ (by have := HS2.out; omega) (by have := HS1.out; have := HWL.out; omega)).trans RA.out)
  have RAO3 : Hid (w3.heap[w1.heap.size + 1]? = some (.cells vao 75 (0, 0))) := Lib.hid ((b23.same _ (by have := HS2.out; omega) (by have := HS1.out; have := HWL.out; omega)).trans RAO.out)
  have KQ3 : Hid (∀ j, w.heap.size ≤ j → j < w.heap.size + 4 → w3.heap[j]? = wv.heap[j]?) := Lib.hid (fun j h1 h2 => (b23.same j (by have := HS2.out; have := HS1.out; omega) (by have := HWL.out; omega)).trans (KQ.out j h1 h2))
  clear g3 b23 a0 a1 a2 a3 hz0 hz1 hw1
  go_upto_region 9 with (first
    | (refine wpList_store_row_any rfl 75 _ _ rfl w3.heap.size vb rfl rfl 75 _ ((((Below.refl _ (w3.alloc _)).alloc (Nat.le_refl _) _).block _ (by simp)).trans (heap_at _ _ _ rfl)) Ivb.out (by rw [Zvb.out]; rfl) Ovb.out ?_; intro w4a hbA2 hgA2 hsA2; have BA2 := Lib.hid hbA2; have GA2 := Lib.hid hgA2; have SA2 : Hid (w4a.heap.size = w3.heap.size + 1 + 1) := Lib.hid (hsA2.trans (by simp)); clear hbA2 hgA2 hsA2)
    | (refine wpList_store_row_any rfl 75 _ _ rfl (w3.heap.size + 1) vbo rfl rfl 75 _ ((BA2.out.same _ (by simp) (by omega)).trans (heap_at _ _ _ (by simp))) Ivbo.out (by rw [Zvbo.out]; rfl) Ovbo.out ?_; intro w4 hbB2 hgB2 hsB2; have BB2 := Lib.hid hbB2; have GB2 := Lib.hid hgB2; have SB2 : Hid (w4.heap.size = w3.heap.size + 1 + 1) := Lib.hid (hsB2.trans SA2.out); clear hbB2 hgB2 hsB2))
  have B2 : Hid (Below w3.heap.size w3 w4) := Lib.hid ((((Below.refl _ _).alloc (Nat.le_refl _) _).alloc (by simp) _).trans (((BA2.out.mono (T := fun k => k = w3.heap.size ∨ k = w3.heap.size + 1) (fun _ _ q => .inl q)).step BB2.out (fun _ _ q => .inr q)).to_below (by simp; omega) (fun k hk q => by omega)))
  have RB : Hid (w4.heap[w3.heap.size]? = some (.cells vb 75 (0, 0))) := Lib.hid ((BB2.out.same _ (by have := SA2.out; omega) (by omega)).trans GA2.out)
  have RBO := GB2
  have HS4 : Hid (w4.heap.size = w3.heap.size + 1 + 1) := SB2
  clear GA2 GB2 SA2 SB2 BA2 BB2
  have RA4 : Hid (w4.heap[w1.heap.size]? = some (.cells va 75 (0, 0))) := Lib.hid ((B2.out.block _ (by have := HS3.out; omega)).trans RA3.out)
  have RAO4 : Hid (w4.heap[w1.heap.size + 1]? = some (.cells vao 75 (0, 0))) := Lib.hid ((B2.out.block _ (by have := HS3.out; omega)).trans RAO3.out)
  have KQ4 : Hid (∀ j, w.heap.size ≤ j → j < w.heap.size + 4 → w4.heap[j]? = wv.heap[j]?) := Lib.hid (fun j h1 h2 => (B2.out.block j (by have := HS3.out; have := HS1.out; omega)).trans (KQ3.out j h1 h2))
  have HB4 : Hid (But (· = W) w w4) := Lib.hid ((HB2.out.trans BQ3.out).below B2.out)
  have G4W : Hid (GAt w4 W x (.slice lA n lcap) pv k2) := Lib.hid ((B2.out.block W (by have := HS3.out; have := HS1.out; have := HWL.out; omega)).trans G3W.out)
  go_wp2_with (first
    | (refine wpList_load_row rfl 75 _ rfl w1.heap.size rfl 75 va (0, 0) _ RA4.out Tryz.underlying75 rfl Iva.out ?_)
    | (refine wpList_load_row rfl 75 _ rfl w3.heap.size rfl 75 vb (0, 0) _ RB.out Tryz.underlying75 rfl Ivb.out ?_))
  refine (HN.out w4).mono ?_
  rintro ev w5 ⟨rfl, b5⟩
  have B5 := Lib.hid b5
  have T6a : Hid (w5.heap[(w.heap.size + 1 + 1)]? = some (.cells vz 75 (0, 0))) := Lib.hid ((b5.block _ (by have := HS4.out; have := HS3.out; have := HS1.out; omega)).trans ((KQ4.out _ (by omega) (by omega)).trans G2.out))
  clear b5
  go_upto_region 10 with (refine wpList_store_row_any rfl 75 _ _ rfl (w.heap.size + 1 + 1) vn rfl rfl 75 _ T6a.out Ivn.out (by rw [Zvz.out, Zvn.out]) Ovn.out ?_; intro w6 hb6 hg6 hs6; have B6 := Lib.hid hb6; have T6 := Lib.hid hg6; have S6 := Lib.hid hs6; clear hb6 hg6 hs6)
  have HS6 : Hid (w4.heap.size ≤ w6.heap.size) := Lib.hid (by have := B5.out.size; have := S6.out; omega)
  have K6 : Hid (∀ j, j < w4.heap.size → j ≠ (w.heap.size + 1 + 1) → w6.heap[j]? = w4.heap[j]?) := Lib.hid (fun j h1 h2 => (B6.out.same j (by have := B5.out.size; omega) h2).trans (B5.out.block j h1))
  have T8a : Hid (w6.heap[(w.heap.size + 1 + 1 + 1)]? = some (.cells vz 75 (0, 0))) := Lib.hid ((K6.out _ (by have := HS4.out; have := HS3.out; have := HS1.out; omega) (by omega)).trans ((KQ4.out _ (by omega) (by omega)).trans G3.out))
  have RAO6 : Hid (w6.heap[w1.heap.size + 1]? = some (.cells vao 75 (0, 0))) := Lib.hid ((K6.out _ (by have := HS4.out; have := HS3.out; omega) (by have := HS1.out; omega)).trans RAO4.out)
  have RBO6 : Hid (w6.heap[w3.heap.size + 1]? = some (.cells vbo 75 (0, 0))) := Lib.hid ((K6.out _ (by have := HS4.out; omega) (by have := HS3.out; have := HS1.out; omega)).trans RBO.out)
  have HB6 : Hid (But (· = W) w w6) := Lib.hid ((HB4.out.below B5.out).step B6.out (fun i hi q => by omega))
  have G6W : Hid (GAt w6 W x (.slice lA n lcap) pv k2) := Lib.hid ((K6.out W (by have := HS4.out; have := HS3.out; have := HS1.out; have := HWL.out; omega) (by have := HWL.out; omega)).trans G4W.out)
  have KQ6 : Hid (∀ j, w.heap.size ≤ j → j < w.heap.size + 2 → w6.heap[j]? = wv.heap[j]?) := Lib.hid (fun j h1 h2 => (K6.out j (by have := HS4.out; have := HS3.out; have := HS1.out; omega) (by omega)).trans (KQ4.out j h1 (by omega)))
  have TZ6 : Hid (w.heap.size + 3 < w6.heap.size) := Lib.hid (by have := HS6.out; have := HS4.out; have := HS3.out; have := HS1.out; omega)
  clear HM HMB hd hdd hone
  cases f1
  · cases f2
    · have SD : Hid (saidV (nodeH h1 h2) (o2.or o1) = .tuple #[.agg vn, .bool false, .agg vz]) := Lib.hid (by
        have e1 : o1 = none := Option.not_isSome_iff_eq_none.1 (by rw [EF.out.1]; simp)
        have e2 : o2 = none := Option.not_isSome_iff_eq_none.1 (by rw [EF.out.2.1]; simp)
        rw [e1, e2]; unfold saidV; rw [Option.or_none, Option.isSome_none, Option.getD_none, EVN.out, zeroH_v, EVZ.out])
      go_upto_region 16 with fail
      have T6 := T6
      have T8 := T8a
      have HGT := G6W
      have HBT := HB6
      have TZ := TZ6
      have a0 : w6.cell? ⟨w.heap.size, 0, none⟩ = some (.int .u64 b) := by rw [cell_of_row w6 w.heap.size 0 _ 101 (0, 0) ((KQ6.out w.heap.size (by omega) (by omega)).trans G0.out)]; rfl
      have a1 : w6.cell? ⟨w.heap.size, 1, none⟩ = some (.int .u64 e) := by rw [cell_of_row w6 w.heap.size 1 _ 101 (0, 0) ((KQ6.out w.heap.size (by omega) (by omega)).trans G0.out)]; rfl
      have a2 : w6.cell? ⟨w.heap.size + 1, 0, none⟩ = some (.int .u64 p) := by rw [cell_of_row w6 (w.heap.size + 1) 0 _ 101 (0, 0) ((KQ6.out (w.heap.size + 1) (by omega) (by omega)).trans G1.out)]; rfl
      have a3 : w6.cell? ⟨w.heap.size + 1, 1, none⟩ = some (.int .u64 q) := by rw [cell_of_row w6 (w.heap.size + 1) 1 _ 101 (0, 0) ((KQ6.out (w.heap.size + 1) (by omega) (by omega)).trans G1.out)]; rfl
      have hz0 : w.heap.size < w6.heap.size := by have := TZ.out; omega
      have hz1 : w.heap.size + 1 < w6.heap.size := by have := TZ.out; omega
      by_cases hpq : b = p ∧ e = q
      · obtain ⟨rfl, rfl⟩ := hpq
        go_wp2_with (first
          | (refine wpList_load_row rfl 75 _ rfl (w.heap.size + 1 + 1) rfl 75 vn (0, 0) _ T6.out Tryz.underlying75 rfl Ivn.out ?_)
          | (refine wpList_store_row rfl 75 _ _ rfl (w.heap.size + 1 + 1) vn rfl rfl 75 _ T6.out Ivn.out rfl Ovn.out ?_)
          | (refine wpList_store_row rfl 75 _ _ rfl (w.heap.size + 1 + 1 + 1) vn rfl rfl 75 _ ((setRow_other _ _ _ _ (by omega)).trans T8.out) Ivn.out (by rw [Zvz.out, Zvn.out]) Ovn.out ?_))
        refine bodyPost_ret (v := .tuple #[.agg vn, .bool true, .agg vn]) (results_row_tmp_row rfl _ _ (w.heap.size + 1 + 1) (w.heap.size + 1 + 1 + 1) 75 75 vn vn (0, 0) (0, 0) _ rfl ((setRow_other _ _ _ _ (by omega)).trans (setRow_heap _ _ _ _ _ _ T6.out)) rfl (setRow_heap _ _ _ _ _ _ ((setRow_other _ _ _ _ (by omega)).trans T8.out)) Tryz.underlying75 rfl Ivn.out Ivn.out _ rfl) rfl ?_
        exact ⟨by (try rw [if_pos ⟨rfl, rfl⟩]); unfold saidV; rw [Option.isSome_some, Option.getD_some, EVN.out], gat_end HGT.out HBT.out HWL.out (((But.refl _ w6).setRow (w.heap.size + 1 + 1) vn (fun _ => by omega)).setRow (w.heap.size + 1 + 1 + 1) vn (fun _ => by omega))⟩
      · have hne : (b == p && e == q) = false := by
          rw [Bool.and_eq_false_iff]
          by_cases h : b = p
          · right; simp; intro h2; exact hpq ⟨h, h2⟩
          · left; simp; exact h
        have hqs : ∀ w, (Op.equalIn 10000 101 (.agg #[.int .u64 b, .int .u64 e]) (.agg #[.int .u64 p, .int .u64 q])).run Tryz.prog w = .ok false w := fun w => by rw [eq_span, hne]
        have HPQ := Lib.hid hpq
        clear hpq hne
        go_wp2_with fail
        refine wp_region_held_drew (S := Gr w6) (by kernel_rfl) ((Gr.refl _).drew) (fun hHeld => ?_)
        refine wpAnyH_take (i := 0) (v := _) rfl (by kernel_rfl) (by kernel_rfl) (by kernel_rfl) (fun _ _ _ h => h) (yieldsIf_load_row (by rfl) 75 _ (by rfl) (w.heap.size + 1 + 1) (by rfl) 75 vn (0, 0) _ (fun w h => (Below.block h _ (by have := TZ.out; omega)).trans T6.out) Tryz.underlying75 rfl Ivn.out) (by assumption) ?_
        try simp only [Act.put, List.getElem_toArray, List.getElem_cons_zero, List.setIfInBounds_toArray, List.set_cons_zero, List.set_cons_succ]
        refine wpAnyH_take (i := 1) (v := ?tv2) rfl (by kernel_rfl) (by kernel_rfl) (by kernel_rfl) (fun _ _ _ h => h) (Or.inl ⟨by rfl, ?ty2⟩) (by assumption) ?tr2
        case ty2 => (intro w hSw; (try dsimp only at hSw); go_simp; (try with_reducible rfl))
        try simp only [Act.put, List.getElem_toArray, List.getElem_cons_zero, List.getElem_cons_succ, List.setIfInBounds_toArray, List.set_cons_zero, List.set_cons_succ]
        refine wpAnyH_take (i := 2) (v := _) rfl (by kernel_rfl) (by kernel_rfl) (by kernel_rfl) (fun _ _ _ h => h) (yieldsIf_load_row (by rfl) 75 _ (by rfl) (w.heap.size + 1 + 1 + 1) (by rfl) 75 vz (0, 0) _ (fun w h => (Below.block h _ (by have := TZ.out; omega)).trans T8.out) Tryz.underlying75 rfl Ivz.out) (by assumption) ?_
        try simp only [Act.put, List.getElem_toArray, List.getElem_cons_zero, List.getElem_cons_succ, List.setIfInBounds_toArray, List.set_cons_zero, List.set_cons_succ]
        refine wpAnyH_ready (rs := [3]) (by kernel_rfl) (by simp) ?_
        refine AllReadyH.cons (i := 3) rfl (fun K2 hK2 => ?_) AllReadyH.nil
        rw [if_pos (by rfl)]
        refine wp_store_row 75 _ _ rfl (w.heap.size + 1 + 1) vn rfl rfl 75 _ ((Below.block (show Gr w6 w6.drew from (Gr.drew (Gr.refl _))) _ (by have := TZ.out; omega)).trans T6.out) Ivn.out rfl Ovn.out ?_
        refine hK2.out _ _ (show Gr w6 _ from (gr_setRow_same (Gr.drew (Gr.refl _)) T6.out)) (fun hHeld2 => ?_)
        clear hK2 K2
        try simp only [Act.put, List.getElem_toArray, List.getElem_cons_zero, List.getElem_cons_succ]
        refine wpAnyH_take (i := 4) (v := ?tv4) rfl (by kernel_rfl) (by kernel_rfl) (by kernel_rfl) (fun _ _ _ h => h) (Or.inl ⟨by rfl, ?ty4⟩) (by assumption) ?tr4
        case ty4 => (intro w hSw; (try dsimp only at hSw); go_simp; (try with_reducible rfl))
        try simp only [Act.put, List.getElem_toArray, List.getElem_cons_zero, List.getElem_cons_succ, List.setIfInBounds_toArray, List.set_cons_zero, List.set_cons_succ]
        refine wpAnyH_ready (rs := [5]) (by kernel_rfl) (by simp) ?_
        refine AllReadyH.cons (i := 5) rfl (fun K2 hK2 => ?_) AllReadyH.nil
        rw [if_pos (by rfl)]
        refine wp_store_row 75 _ _ rfl (w.heap.size + 1 + 1 + 1) vz rfl rfl 75 _ ((Below.block (show Gr w6 (w6.drew.setRow (w.heap.size + 1 + 1) vn) from (gr_setRow_same (Gr.drew (Gr.refl _)) T6.out)) _ (by have := TZ.out; omega)).trans T8.out) Ivz.out rfl Ovz.out ?_
        refine hK2.out _ _ (show Gr w6 _ from (gr_setRow_same (gr_setRow_same (Gr.drew (Gr.refl _)) T6.out) T8.out)) (fun hHeld2 => ?_)
        clear hK2 K2
        try simp only [Act.put, List.getElem_toArray, List.getElem_cons_zero, List.getElem_cons_succ]
        refine wpAnyH_done (by kernel_rfl) ?_ _
        obtain ⟨we, hwe⟩ : ∃ x, ((w6.drew.setRow (w.heap.size + 1 + 1) vn).setRow (w.heap.size + 1 + 1 + 1) vz) = x := ⟨_, rfl⟩
        have HGE : Hid (Gr w6 we) := Lib.hid (by rw [← hwe]; exact (gr_setRow_same (gr_setRow_same (Gr.drew (Gr.refl _)) T6.out) T8.out))
        rw [hwe]
        clear hwe hHeld hHeld2 hqs a0 a1 a2 a3
        apply (by assumption : ∀ (a : Act) (w : World), Code.wp Tryz.prog Code.ret _ a w → _)
        apply wp_ret
        refine bodyPost_ret (v := .tuple #[.agg vn, .bool false, .agg vz]) (results_row_tmp_row rfl _ _ (w.heap.size + 1 + 1) (w.heap.size + 1 + 1 + 1) 75 75 vn vz (0, 0) (0, 0) _ rfl ((Below.block HGE.out _ (by have := TZ.out; omega)).trans T6.out) rfl ((Below.block HGE.out _ (by have := TZ.out; omega)).trans T8.out) Tryz.underlying75 rfl Ivn.out Ivz.out _ rfl) rfl ?_
        exact ⟨by rw [if_neg HPQ.out, SD.out], gat_end HGT.out HBT.out HWL.out (But.new HGE.out)⟩
    · have SD : Hid (saidV (nodeH h1 h2) (o2.or o1) = .tuple #[.agg vn, .bool true, .agg vbo]) := Lib.hid (by
        obtain ⟨y, e2⟩ := Option.isSome_iff_exists.1 (EF.out.2.1)
        have e3 := EF.out.2.2.2
        rw [e2] at e3 ⊢; unfold saidV; rw [Option.some_or, Option.isSome_some, EVN.out, e3])
      go_upto_region 16 with (first | (refine wpList_load_row rfl 75 _ rfl (w3.heap.size + 1) rfl 75 vbo (0, 0) _ RBO6.out Tryz.underlying75 rfl Ivbo.out ?_) | (refine wpList_store_row_any rfl 75 _ _ rfl (w.heap.size + 1 + 1 + 1) vbo rfl rfl 75 _ T8a.out Ivbo.out (by rw [Zvz.out, Zvbo.out]) Ovbo.out ?_; intro w8 hb8 hg8 hs8; have B8 := Lib.hid hb8; have T88 := Lib.hid hg8; have S8 := Lib.hid hs8; clear hb8 hg8 hs8))
      have T68 : Hid (w8.heap[(w.heap.size + 1 + 1)]? = some (.cells vn 75 (0, 0))) := Lib.hid ((B8.out.same _ (Array.getElem?_eq_some_iff.1 T6.out).1 (by omega)).trans T6.out)
      have HB8 : Hid (But (· = W) w w8) := Lib.hid (HB6.out.step B8.out (fun i hi q => by omega))
      have G8W : Hid (GAt w8 W x (.slice lA n lcap) pv k2) := Lib.hid ((B8.out.same W (by have := TZ6.out; have := HWL.out; omega) (by have := HWL.out; omega)).trans G6W.out)
      have KQ8 : Hid (∀ j, w.heap.size ≤ j → j < w.heap.size + 2 → w8.heap[j]? = wv.heap[j]?) := Lib.hid (fun j h1 h2 => (B8.out.same j (by have := TZ6.out; omega) (by omega)).trans (KQ6.out j h1 h2))
      have TZ8 : Hid (w.heap.size + 3 < w8.heap.size) := Lib.hid (by have := S8.out; have := TZ6.out; omega)
      have T6 := T68
      have T8 := T88
      have HGT := G8W
      have HBT := HB8
      have TZ := TZ8
      have a0 : w8.cell? ⟨w.heap.size, 0, none⟩ = some (.int .u64 b) := by rw [cell_of_row w8 w.heap.size 0 _ 101 (0, 0) ((KQ8.out w.heap.size (by omega) (by omega)).trans G0.out)]; rfl
      have a1 : w8.cell? ⟨w.heap.size, 1, none⟩ = some (.int .u64 e) := by rw [cell_of_row w8 w.heap.size 1 _ 101 (0, 0) ((KQ8.out w.heap.size (by omega) (by omega)).trans G0.out)]; rfl
      have a2 : w8.cell? ⟨w.heap.size + 1, 0, none⟩ = some (.int .u64 p) := by rw [cell_of_row w8 (w.heap.size + 1) 0 _ 101 (0, 0) ((KQ8.out (w.heap.size + 1) (by omega) (by omega)).trans G1.out)]; rfl
      have a3 : w8.cell? ⟨w.heap.size + 1, 1, none⟩ = some (.int .u64 q) := by rw [cell_of_row w8 (w.heap.size + 1) 1 _ 101 (0, 0) ((KQ8.out (w.heap.size + 1) (by omega) (by omega)).trans G1.out)]; rfl
      have hz0 : w.heap.size < w8.heap.size := by have := TZ.out; omega
      have hz1 : w.heap.size + 1 < w8.heap.size := by have := TZ.out; omega
      by_cases hpq : b = p ∧ e = q
      · obtain ⟨rfl, rfl⟩ := hpq
        go_wp2_with (first
          | (refine wpList_load_row rfl 75 _ rfl (w.heap.size + 1 + 1) rfl 75 vn (0, 0) _ T6.out Tryz.underlying75 rfl Ivn.out ?_)
          | (refine wpList_store_row rfl 75 _ _ rfl (w.heap.size + 1 + 1) vn rfl rfl 75 _ T6.out Ivn.out rfl Ovn.out ?_)
          | (refine wpList_store_row rfl 75 _ _ rfl (w.heap.size + 1 + 1 + 1) vn rfl rfl 75 _ ((setRow_other _ _ _ _ (by omega)).trans T8.out) Ivn.out (by rw [Zvbo.out, Zvn.out]) Ovn.out ?_))
        refine bodyPost_ret (v := .tuple #[.agg vn, .bool true, .agg vn]) (results_row_tmp_row rfl _ _ (w.heap.size + 1 + 1) (w.heap.size + 1 + 1 + 1) 75 75 vn vn (0, 0) (0, 0) _ rfl ((setRow_other _ _ _ _ (by omega)).trans (setRow_heap _ _ _ _ _ _ T6.out)) rfl (setRow_heap _ _ _ _ _ _ ((setRow_other _ _ _ _ (by omega)).trans T8.out)) Tryz.underlying75 rfl Ivn.out Ivn.out _ rfl) rfl ?_
        exact ⟨by (try rw [if_pos ⟨rfl, rfl⟩]); unfold saidV; rw [Option.isSome_some, Option.getD_some, EVN.out], gat_end HGT.out HBT.out HWL.out (((But.refl _ w8).setRow (w.heap.size + 1 + 1) vn (fun _ => by omega)).setRow (w.heap.size + 1 + 1 + 1) vn (fun _ => by omega))⟩
      · have hne : (b == p && e == q) = false := by
          rw [Bool.and_eq_false_iff]
          by_cases h : b = p
          · right; simp; intro h2; exact hpq ⟨h, h2⟩
          · left; simp; exact h
        have hqs : ∀ w, (Op.equalIn 10000 101 (.agg #[.int .u64 b, .int .u64 e]) (.agg #[.int .u64 p, .int .u64 q])).run Tryz.prog w = .ok false w := fun w => by rw [eq_span, hne]
        have HPQ := Lib.hid hpq
        clear hpq hne
        go_wp2_with fail
        refine wp_region_held_drew (S := Gr w8) (by kernel_rfl) ((Gr.refl _).drew) (fun hHeld => ?_)
        refine wpAnyH_take (i := 0) (v := _) rfl (by kernel_rfl) (by kernel_rfl) (by kernel_rfl) (fun _ _ _ h => h) (yieldsIf_load_row (by rfl) 75 _ (by rfl) (w.heap.size + 1 + 1) (by rfl) 75 vn (0, 0) _ (fun w h => (Below.block h _ (by have := TZ.out; omega)).trans T6.out) Tryz.underlying75 rfl Ivn.out) (by assumption) ?_
        try simp only [Act.put, List.getElem_toArray, List.getElem_cons_zero, List.setIfInBounds_toArray, List.set_cons_zero, List.set_cons_succ]
        refine wpAnyH_take (i := 1) (v := ?tv6) rfl (by kernel_rfl) (by kernel_rfl) (by kernel_rfl) (fun _ _ _ h => h) (Or.inl ⟨by rfl, ?ty6⟩) (by assumption) ?tr6
        case ty6 => (intro w hSw; (try dsimp only at hSw); go_simp; (try with_reducible rfl))
        try simp only [Act.put, List.getElem_toArray, List.getElem_cons_zero, List.getElem_cons_succ, List.setIfInBounds_toArray, List.set_cons_zero, List.set_cons_succ]
        refine wpAnyH_take (i := 2) (v := _) rfl (by kernel_rfl) (by kernel_rfl) (by kernel_rfl) (fun _ _ _ h => h) (yieldsIf_load_row (by rfl) 75 _ (by rfl) (w.heap.size + 1 + 1 + 1) (by rfl) 75 vbo (0, 0) _ (fun w h => (Below.block h _ (by have := TZ.out; omega)).trans T8.out) Tryz.underlying75 rfl Ivbo.out) (by assumption) ?_
        try simp only [Act.put, List.getElem_toArray, List.getElem_cons_zero, List.getElem_cons_succ, List.setIfInBounds_toArray, List.set_cons_zero, List.set_cons_succ]
        refine wpAnyH_ready (rs := [3]) (by kernel_rfl) (by simp) ?_
        refine AllReadyH.cons (i := 3) rfl (fun K2 hK2 => ?_) AllReadyH.nil
        rw [if_pos (by rfl)]
        refine wp_store_row 75 _ _ rfl (w.heap.size + 1 + 1) vn rfl rfl 75 _ ((Below.block (show Gr w8 w8.drew from (Gr.drew (Gr.refl _))) _ (by have := TZ.out; omega)).trans T6.out) Ivn.out rfl Ovn.out ?_
        refine hK2.out _ _ (show Gr w8 _ from (gr_setRow_same (Gr.drew (Gr.refl _)) T6.out)) (fun hHeld2 => ?_)
        clear hK2 K2
        try simp only [Act.put, List.getElem_toArray, List.getElem_cons_zero, List.getElem_cons_succ]
        refine wpAnyH_take (i := 4) (v := ?tv8) rfl (by kernel_rfl) (by kernel_rfl) (by kernel_rfl) (fun _ _ _ h => h) (Or.inl ⟨by rfl, ?ty8⟩) (by assumption) ?tr8
        case ty8 => (intro w hSw; (try dsimp only at hSw); go_simp; (try with_reducible rfl))
        try simp only [Act.put, List.getElem_toArray, List.getElem_cons_zero, List.getElem_cons_succ, List.setIfInBounds_toArray, List.set_cons_zero, List.set_cons_succ]
        refine wpAnyH_ready (rs := [5]) (by kernel_rfl) (by simp) ?_
        refine AllReadyH.cons (i := 5) rfl (fun K2 hK2 => ?_) AllReadyH.nil
        rw [if_pos (by rfl)]
        refine wp_store_row 75 _ _ rfl (w.heap.size + 1 + 1 + 1) vbo rfl rfl 75 _ ((Below.block (show Gr w8 (w8.drew.setRow (w.heap.size + 1 + 1) vn) from (gr_setRow_same (Gr.drew (Gr.refl _)) T6.out)) _ (by have := TZ.out; omega)).trans T8.out) Ivbo.out rfl Ovbo.out ?_
        refine hK2.out _ _ (show Gr w8 _ from (gr_setRow_same (gr_setRow_same (Gr.drew (Gr.refl _)) T6.out) T8.out)) (fun hHeld2 => ?_)
        clear hK2 K2
        try simp only [Act.put, List.getElem_toArray, List.getElem_cons_zero, List.getElem_cons_succ]
        refine wpAnyH_done (by kernel_rfl) ?_ _
        obtain ⟨we, hwe⟩ : ∃ x, ((w8.drew.setRow (w.heap.size + 1 + 1) vn).setRow (w.heap.size + 1 + 1 + 1) vbo) = x := ⟨_, rfl⟩
        have HGE : Hid (Gr w8 we) := Lib.hid (by rw [← hwe]; exact (gr_setRow_same (gr_setRow_same (Gr.drew (Gr.refl _)) T6.out) T8.out))
        rw [hwe]
        clear hwe hHeld hHeld2 hqs a0 a1 a2 a3
        apply (by assumption : ∀ (a : Act) (w : World), Code.wp Tryz.prog Code.ret _ a w → _)
        apply wp_ret
        refine bodyPost_ret (v := .tuple #[.agg vn, .bool true, .agg vbo]) (results_row_tmp_row rfl _ _ (w.heap.size + 1 + 1) (w.heap.size + 1 + 1 + 1) 75 75 vn vbo (0, 0) (0, 0) _ rfl ((Below.block HGE.out _ (by have := TZ.out; omega)).trans T6.out) rfl ((Below.block HGE.out _ (by have := TZ.out; omega)).trans T8.out) Tryz.underlying75 rfl Ivn.out Ivbo.out _ rfl) rfl ?_
        exact ⟨by rw [if_neg HPQ.out, SD.out], gat_end HGT.out HBT.out HWL.out (But.new HGE.out)⟩
  · cases f2
    · have SD : Hid (saidV (nodeH h1 h2) (o2.or o1) = .tuple #[.agg vn, .bool true, .agg vao]) := Lib.hid (by
        obtain ⟨y, e1⟩ := Option.isSome_iff_exists.1 (EF.out.1)
        have e2 : o2 = none := Option.not_isSome_iff_eq_none.1 (by rw [EF.out.2.1]; simp)
        have e3 := EF.out.2.2.1
        rw [e2, e1] at *; unfold saidV; rw [Option.none_or, Option.isSome_some, EVN.out, e3])
      go_upto_region 16 with (first | (refine wpList_load_row rfl 75 _ rfl (w1.heap.size + 1) rfl 75 vao (0, 0) _ RAO6.out Tryz.underlying75 rfl Ivao.out ?_) | (refine wpList_store_row_any rfl 75 _ _ rfl (w.heap.size + 1 + 1 + 1) vao rfl rfl 75 _ T8a.out Ivao.out (by rw [Zvz.out, Zvao.out]) Ovao.out ?_; intro w7 hb7 hg7 hs7; have B7 := Lib.hid hb7; have T87 := Lib.hid hg7; have S7 := Lib.hid hs7; clear hb7 hg7 hs7))
      have T67 : Hid (w7.heap[(w.heap.size + 1 + 1)]? = some (.cells vn 75 (0, 0))) := Lib.hid ((B7.out.same _ (Array.getElem?_eq_some_iff.1 T6.out).1 (by omega)).trans T6.out)
      have HB7 : Hid (But (· = W) w w7) := Lib.hid (HB6.out.step B7.out (fun i hi q => by omega))
      have G7W : Hid (GAt w7 W x (.slice lA n lcap) pv k2) := Lib.hid ((B7.out.same W (by have := TZ6.out; have := HWL.out; omega) (by have := HWL.out; omega)).trans G6W.out)
      have KQ7 : Hid (∀ j, w.heap.size ≤ j → j < w.heap.size + 2 → w7.heap[j]? = wv.heap[j]?) := Lib.hid (fun j h1 h2 => (B7.out.same j (by have := TZ6.out; omega) (by omega)).trans (KQ6.out j h1 h2))
      have TZ7 : Hid (w.heap.size + 3 < w7.heap.size) := Lib.hid (by have := S7.out; have := TZ6.out; omega)
      have T6 := T67
      have T8 := T87
      have HGT := G7W
      have HBT := HB7
      have TZ := TZ7
      have a0 : w7.cell? ⟨w.heap.size, 0, none⟩ = some (.int .u64 b) := by rw [cell_of_row w7 w.heap.size 0 _ 101 (0, 0) ((KQ7.out w.heap.size (by omega) (by omega)).trans G0.out)]; rfl
      have a1 : w7.cell? ⟨w.heap.size, 1, none⟩ = some (.int .u64 e) := by rw [cell_of_row w7 w.heap.size 1 _ 101 (0, 0) ((KQ7.out w.heap.size (by omega) (by omega)).trans G0.out)]; rfl
      have a2 : w7.cell? ⟨w.heap.size + 1, 0, none⟩ = some (.int .u64 p) := by rw [cell_of_row w7 (w.heap.size + 1) 0 _ 101 (0, 0) ((KQ7.out (w.heap.size + 1) (by omega) (by omega)).trans G1.out)]; rfl
      have a3 : w7.cell? ⟨w.heap.size + 1, 1, none⟩ = some (.int .u64 q) := by rw [cell_of_row w7 (w.heap.size + 1) 1 _ 101 (0, 0) ((KQ7.out (w.heap.size + 1) (by omega) (by omega)).trans G1.out)]; rfl
      have hz0 : w.heap.size < w7.heap.size := by have := TZ.out; omega
      have hz1 : w.heap.size + 1 < w7.heap.size := by have := TZ.out; omega
      by_cases hpq : b = p ∧ e = q
      · obtain ⟨rfl, rfl⟩ := hpq
        go_wp2_with (first
          | (refine wpList_load_row rfl 75 _ rfl (w.heap.size + 1 + 1) rfl 75 vn (0, 0) _ T6.out Tryz.underlying75 rfl Ivn.out ?_)
          | (refine wpList_store_row rfl 75 _ _ rfl (w.heap.size + 1 + 1) vn rfl rfl 75 _ T6.out Ivn.out rfl Ovn.out ?_)
          | (refine wpList_store_row rfl 75 _ _ rfl (w.heap.size + 1 + 1 + 1) vn rfl rfl 75 _ ((setRow_other _ _ _ _ (by omega)).trans T8.out) Ivn.out (by rw [Zvao.out, Zvn.out]) Ovn.out ?_))
        refine bodyPost_ret (v := .tuple #[.agg vn, .bool true, .agg vn]) (results_row_tmp_row rfl _ _ (w.heap.size + 1 + 1) (w.heap.size + 1 + 1 + 1) 75 75 vn vn (0, 0) (0, 0) _ rfl ((setRow_other _ _ _ _ (by omega)).trans (setRow_heap _ _ _ _ _ _ T6.out)) rfl (setRow_heap _ _ _ _ _ _ ((setRow_other _ _ _ _ (by omega)).trans T8.out)) Tryz.underlying75 rfl Ivn.out Ivn.out _ rfl) rfl ?_
        exact ⟨by (try rw [if_pos ⟨rfl, rfl⟩]); unfold saidV; rw [Option.isSome_some, Option.getD_some, EVN.out], gat_end HGT.out HBT.out HWL.out (((But.refl _ w7).setRow (w.heap.size + 1 + 1) vn (fun _ => by omega)).setRow (w.heap.size + 1 + 1 + 1) vn (fun _ => by omega))⟩
      · have hne : (b == p && e == q) = false := by
          rw [Bool.and_eq_false_iff]
          by_cases h : b = p
          · right; simp; intro h2; exact hpq ⟨h, h2⟩
          · left; simp; exact h
        have hqs : ∀ w, (Op.equalIn 10000 101 (.agg #[.int .u64 b, .int .u64 e]) (.agg #[.int .u64 p, .int .u64 q])).run Tryz.prog w = .ok false w := fun w => by rw [eq_span, hne]
        have HPQ := Lib.hid hpq
        clear hpq hne
        go_wp2_with fail
        refine wp_region_held_drew (S := Gr w7) (by kernel_rfl) ((Gr.refl _).drew) (fun hHeld => ?_)
        refine wpAnyH_take (i := 0) (v := _) rfl (by kernel_rfl) (by kernel_rfl) (by kernel_rfl) (fun _ _ _ h => h) (yieldsIf_load_row (by rfl) 75 _ (by rfl) (w.heap.size + 1 + 1) (by rfl) 75 vn (0, 0) _ (fun w h => (Below.block h _ (by have := TZ.out; omega)).trans T6.out) Tryz.underlying75 rfl Ivn.out) (by assumption) ?_
        try simp only [Act.put, List.getElem_toArray, List.getElem_cons_zero, List.setIfInBounds_toArray, List.set_cons_zero, List.set_cons_succ]
        refine wpAnyH_take (i := 1) (v := ?tv10) rfl (by kernel_rfl) (by kernel_rfl) (by kernel_rfl) (fun _ _ _ h => h) (Or.inl ⟨by rfl, ?ty10⟩) (by assumption) ?tr10
        case ty10 => (intro w hSw; (try dsimp only at hSw); go_simp; (try with_reducible rfl))
        try simp only [Act.put, List.getElem_toArray, List.getElem_cons_zero, List.getElem_cons_succ, List.setIfInBounds_toArray, List.set_cons_zero, List.set_cons_succ]
        refine wpAnyH_take (i := 2) (v := _) rfl (by kernel_rfl) (by kernel_rfl) (by kernel_rfl) (fun _ _ _ h => h) (yieldsIf_load_row (by rfl) 75 _ (by rfl) (w.heap.size + 1 + 1 + 1) (by rfl) 75 vao (0, 0) _ (fun w h => (Below.block h _ (by have := TZ.out; omega)).trans T8.out) Tryz.underlying75 rfl Ivao.out) (by assumption) ?_
        try simp only [Act.put, List.getElem_toArray, List.getElem_cons_zero, List.getElem_cons_succ, List.setIfInBounds_toArray, List.set_cons_zero, List.set_cons_succ]
        refine wpAnyH_ready (rs := [3]) (by kernel_rfl) (by simp) ?_
        refine AllReadyH.cons (i := 3) rfl (fun K2 hK2 => ?_) AllReadyH.nil
        rw [if_pos (by rfl)]
        refine wp_store_row 75 _ _ rfl (w.heap.size + 1 + 1) vn rfl rfl 75 _ ((Below.block (show Gr w7 w7.drew from (Gr.drew (Gr.refl _))) _ (by have := TZ.out; omega)).trans T6.out) Ivn.out rfl Ovn.out ?_
        refine hK2.out _ _ (show Gr w7 _ from (gr_setRow_same (Gr.drew (Gr.refl _)) T6.out)) (fun hHeld2 => ?_)
        clear hK2 K2
        try simp only [Act.put, List.getElem_toArray, List.getElem_cons_zero, List.getElem_cons_succ]
        refine wpAnyH_take (i := 4) (v := ?tv12) rfl (by kernel_rfl) (by kernel_rfl) (by kernel_rfl) (fun _ _ _ h => h) (Or.inl ⟨by rfl, ?ty12⟩) (by assumption) ?tr12
        case ty12 => (intro w hSw; (try dsimp only at hSw); go_simp; (try with_reducible rfl))
        try simp only [Act.put, List.getElem_toArray, List.getElem_cons_zero, List.getElem_cons_succ, List.setIfInBounds_toArray, List.set_cons_zero, List.set_cons_succ]
        refine wpAnyH_ready (rs := [5]) (by kernel_rfl) (by simp) ?_
        refine AllReadyH.cons (i := 5) rfl (fun K2 hK2 => ?_) AllReadyH.nil
        rw [if_pos (by rfl)]
        refine wp_store_row 75 _ _ rfl (w.heap.size + 1 + 1 + 1) vao rfl rfl 75 _ ((Below.block (show Gr w7 (w7.drew.setRow (w.heap.size + 1 + 1) vn) from (gr_setRow_same (Gr.drew (Gr.refl _)) T6.out)) _ (by have := TZ.out; omega)).trans T8.out) Ivao.out rfl Ovao.out ?_
        refine hK2.out _ _ (show Gr w7 _ from (gr_setRow_same (gr_setRow_same (Gr.drew (Gr.refl _)) T6.out) T8.out)) (fun hHeld2 => ?_)
        clear hK2 K2
        try simp only [Act.put, List.getElem_toArray, List.getElem_cons_zero, List.getElem_cons_succ]
        refine wpAnyH_done (by kernel_rfl) ?_ _
        obtain ⟨we, hwe⟩ : ∃ x, ((w7.drew.setRow (w.heap.size + 1 + 1) vn).setRow (w.heap.size + 1 + 1 + 1) vao) = x := ⟨_, rfl⟩
        have HGE : Hid (Gr w7 we) := Lib.hid (by rw [← hwe]; exact (gr_setRow_same (gr_setRow_same (Gr.drew (Gr.refl _)) T6.out) T8.out))
        rw [hwe]
        clear hwe hHeld hHeld2 hqs a0 a1 a2 a3
        apply (by assumption : ∀ (a : Act) (w : World), Code.wp Tryz.prog Code.ret _ a w → _)
        apply wp_ret
        refine bodyPost_ret (v := .tuple #[.agg vn, .bool true, .agg vao]) (results_row_tmp_row rfl _ _ (w.heap.size + 1 + 1) (w.heap.size + 1 + 1 + 1) 75 75 vn vao (0, 0) (0, 0) _ rfl ((Below.block HGE.out _ (by have := TZ.out; omega)).trans T6.out) rfl ((Below.block HGE.out _ (by have := TZ.out; omega)).trans T8.out) Tryz.underlying75 rfl Ivn.out Ivao.out _ rfl) rfl ?_
        exact ⟨by rw [if_neg HPQ.out, SD.out], gat_end HGT.out HBT.out HWL.out (But.new HGE.out)⟩
    · have SD : Hid (saidV (nodeH h1 h2) (o2.or o1) = .tuple #[.agg vn, .bool true, .agg vbo]) := Lib.hid (by
        obtain ⟨y, e2⟩ := Option.isSome_iff_exists.1 (EF.out.2.1)
        have e3 := EF.out.2.2.2
        rw [e2] at e3 ⊢; unfold saidV; rw [Option.some_or, Option.isSome_some, EVN.out, e3])
      go_upto_region 13 with (first | (refine wpList_load_row rfl 75 _ rfl (w1.heap.size + 1) rfl 75 vao (0, 0) _ RAO6.out Tryz.underlying75 rfl Ivao.out ?_) | (refine wpList_store_row_any rfl 75 _ _ rfl (w.heap.size + 1 + 1 + 1) vao rfl rfl 75 _ T8a.out Ivao.out (by rw [Zvz.out, Zvao.out]) Ovao.out ?_; intro w7 hb7 hg7 hs7; have B7 := Lib.hid hb7; have T87 := Lib.hid hg7; have S7 := Lib.hid hs7; clear hb7 hg7 hs7))
      have RBO7 : Hid (w7.heap[w3.heap.size + 1]? = some (.cells vbo 75 (0, 0))) := Lib.hid ((B7.out.same _ (Array.getElem?_eq_some_iff.1 RBO6.out).1 (by have := HS3.out; have := HS1.out; omega)).trans RBO6.out)
      go_upto_region 16 with (first | (refine wpList_load_row rfl 75 _ rfl (w3.heap.size + 1) rfl 75 vbo (0, 0) _ RBO7.out Tryz.underlying75 rfl Ivbo.out ?_) | (refine wpList_store_row_any rfl 75 _ _ rfl (w.heap.size + 1 + 1 + 1) vbo rfl rfl 75 _ T87.out Ivbo.out (by rw [Zvao.out, Zvbo.out]) Ovbo.out ?_; intro w8 hb8 hg8 hs8; have B8 := Lib.hid hb8; have T88 := Lib.hid hg8; have S8 := Lib.hid hs8; clear hb8 hg8 hs8))
      have T67 : Hid (w7.heap[(w.heap.size + 1 + 1)]? = some (.cells vn 75 (0, 0))) := Lib.hid ((B7.out.same _ (Array.getElem?_eq_some_iff.1 T6.out).1 (by omega)).trans T6.out)
      have HB7 : Hid (But (· = W) w w7) := Lib.hid (HB6.out.step B7.out (fun i hi q => by omega))
      have G7W : Hid (GAt w7 W x (.slice lA n lcap) pv k2) := Lib.hid ((B7.out.same W (by have := TZ6.out; have := HWL.out; omega) (by have := HWL.out; omega)).trans G6W.out)
      have KQ7 : Hid (∀ j, w.heap.size ≤ j → j < w.heap.size + 2 → w7.heap[j]? = wv.heap[j]?) := Lib.hid (fun j h1 h2 => (B7.out.same j (by have := TZ6.out; omega) (by omega)).trans (KQ6.out j h1 h2))
      have TZ7 : Hid (w.heap.size + 3 < w7.heap.size) := Lib.hid (by have := S7.out; have := TZ6.out; omega)
      have T68 : Hid (w8.heap[(w.heap.size + 1 + 1)]? = some (.cells vn 75 (0, 0))) := Lib.hid ((B8.out.same _ (Array.getElem?_eq_some_iff.1 T67.out).1 (by omega)).trans T67.out)
      have HB8 : Hid (But (· = W) w w8) := Lib.hid (HB7.out.step B8.out (fun i hi q => by omega))
      have G8W : Hid (GAt w8 W x (.slice lA n lcap) pv k2) := Lib.hid ((B8.out.same W (by have := TZ7.out; have := HWL.out; omega) (by have := HWL.out; omega)).trans G7W.out)
      have KQ8 : Hid (∀ j, w.heap.size ≤ j → j < w.heap.size + 2 → w8.heap[j]? = wv.heap[j]?) := Lib.hid (fun j h1 h2 => (B8.out.same j (by have := TZ7.out; omega) (by omega)).trans (KQ7.out j h1 h2))
      have TZ8 : Hid (w.heap.size + 3 < w8.heap.size) := Lib.hid (by have := S8.out; have := TZ7.out; omega)
      have T6 := T68
      have T8 := T88
      have HGT := G8W
      have HBT := HB8
      have TZ := TZ8
      have a0 : w8.cell? ⟨w.heap.size, 0, none⟩ = some (.int .u64 b) := by rw [cell_of_row w8 w.heap.size 0 _ 101 (0, 0) ((KQ8.out w.heap.size (by omega) (by omega)).trans G0.out)]; rfl
      have a1 : w8.cell? ⟨w.heap.size, 1, none⟩ = some (.int .u64 e) := by rw [cell_of_row w8 w.heap.size 1 _ 101 (0, 0) ((KQ8.out w.heap.size (by omega) (by omega)).trans G0.out)]; rfl
      have a2 : w8.cell? ⟨w.heap.size + 1, 0, none⟩ = some (.int .u64 p) := by rw [cell_of_row w8 (w.heap.size + 1) 0 _ 101 (0, 0) ((KQ8.out (w.heap.size + 1) (by omega) (by omega)).trans G1.out)]; rfl
      have a3 : w8.cell? ⟨w.heap.size + 1, 1, none⟩ = some (.int .u64 q) := by rw [cell_of_row w8 (w.heap.size + 1) 1 _ 101 (0, 0) ((KQ8.out (w.heap.size + 1) (by omega) (by omega)).trans G1.out)]; rfl
      have hz0 : w.heap.size < w8.heap.size := by have := TZ.out; omega
      have hz1 : w.heap.size + 1 < w8.heap.size := by have := TZ.out; omega
      by_cases hpq : b = p ∧ e = q
      · obtain ⟨rfl, rfl⟩ := hpq
        go_wp2_with (first
          | (refine wpList_load_row rfl 75 _ rfl (w.heap.size + 1 + 1) rfl 75 vn (0, 0) _ T6.out Tryz.underlying75 rfl Ivn.out ?_)
          | (refine wpList_store_row rfl 75 _ _ rfl (w.heap.size + 1 + 1) vn rfl rfl 75 _ T6.out Ivn.out rfl Ovn.out ?_)
          | (refine wpList_store_row rfl 75 _ _ rfl (w.heap.size + 1 + 1 + 1) vn rfl rfl 75 _ ((setRow_other _ _ _ _ (by omega)).trans T8.out) Ivn.out (by rw [Zvbo.out, Zvn.out]) Ovn.out ?_))
        refine bodyPost_ret (v := .tuple #[.agg vn, .bool true, .agg vn]) (results_row_tmp_row rfl _ _ (w.heap.size + 1 + 1) (w.heap.size + 1 + 1 + 1) 75 75 vn vn (0, 0) (0, 0) _ rfl ((setRow_other _ _ _ _ (by omega)).trans (setRow_heap _ _ _ _ _ _ T6.out)) rfl (setRow_heap _ _ _ _ _ _ ((setRow_other _ _ _ _ (by omega)).trans T8.out)) Tryz.underlying75 rfl Ivn.out Ivn.out _ rfl) rfl ?_
        exact ⟨by (try rw [if_pos ⟨rfl, rfl⟩]); unfold saidV; rw [Option.isSome_some, Option.getD_some, EVN.out], gat_end HGT.out HBT.out HWL.out (((But.refl _ w8).setRow (w.heap.size + 1 + 1) vn (fun _ => by omega)).setRow (w.heap.size + 1 + 1 + 1) vn (fun _ => by omega))⟩
      · have hne : (b == p && e == q) = false := by
          rw [Bool.and_eq_false_iff]
          by_cases h : b = p
          · right; simp; intro h2; exact hpq ⟨h, h2⟩
          · left; simp; exact h
        have hqs : ∀ w, (Op.equalIn 10000 101 (.agg #[.int .u64 b, .int .u64 e]) (.agg #[.int .u64 p, .int .u64 q])).run Tryz.prog w = .ok false w := fun w => by rw [eq_span, hne]
        have HPQ := Lib.hid hpq
        clear hpq hne
        go_wp2_with fail
        refine wp_region_held_drew (S := Gr w8) (by kernel_rfl) ((Gr.refl _).drew) (fun hHeld => ?_)
        refine wpAnyH_take (i := 0) (v := _) rfl (by kernel_rfl) (by kernel_rfl) (by kernel_rfl) (fun _ _ _ h => h) (yieldsIf_load_row (by rfl) 75 _ (by rfl) (w.heap.size + 1 + 1) (by rfl) 75 vn (0, 0) _ (fun w h => (Below.block h _ (by have := TZ.out; omega)).trans T6.out) Tryz.underlying75 rfl Ivn.out) (by assumption) ?_
        try simp only [Act.put, List.getElem_toArray, List.getElem_cons_zero, List.setIfInBounds_toArray, List.set_cons_zero, List.set_cons_succ]
        refine wpAnyH_take (i := 1) (v := ?tv14) rfl (by kernel_rfl) (by kernel_rfl) (by kernel_rfl) (fun _ _ _ h => h) (Or.inl ⟨by rfl, ?ty14⟩) (by assumption) ?tr14
        case ty14 => (intro w hSw; (try dsimp only at hSw); go_simp; (try with_reducible rfl))
        try simp only [Act.put, List.getElem_toArray, List.getElem_cons_zero, List.getElem_cons_succ, List.setIfInBounds_toArray, List.set_cons_zero, List.set_cons_succ]
        refine wpAnyH_take (i := 2) (v := _) rfl (by kernel_rfl) (by kernel_rfl) (by kernel_rfl) (fun _ _ _ h => h) (yieldsIf_load_row (by rfl) 75 _ (by rfl) (w.heap.size + 1 + 1 + 1) (by rfl) 75 vbo (0, 0) _ (fun w h => (Below.block h _ (by have := TZ.out; omega)).trans T8.out) Tryz.underlying75 rfl Ivbo.out) (by assumption) ?_
        try simp only [Act.put, List.getElem_toArray, List.getElem_cons_zero, List.getElem_cons_succ, List.setIfInBounds_toArray, List.set_cons_zero, List.set_cons_succ]
        refine wpAnyH_ready (rs := [3]) (by kernel_rfl) (by simp) ?_
        refine AllReadyH.cons (i := 3) rfl (fun K2 hK2 => ?_) AllReadyH.nil
        rw [if_pos (by rfl)]
        refine wp_store_row 75 _ _ rfl (w.heap.size + 1 + 1) vn rfl rfl 75 _ ((Below.block (show Gr w8 w8.drew from (Gr.drew (Gr.refl _))) _ (by have := TZ.out; omega)).trans T6.out) Ivn.out rfl Ovn.out ?_
        refine hK2.out _ _ (show Gr w8 _ from (gr_setRow_same (Gr.drew (Gr.refl _)) T6.out)) (fun hHeld2 => ?_)
        clear hK2 K2
        try simp only [Act.put, List.getElem_toArray, List.getElem_cons_zero, List.getElem_cons_succ]
        refine wpAnyH_take (i := 4) (v := ?tv16) rfl (by kernel_rfl) (by kernel_rfl) (by kernel_rfl) (fun _ _ _ h => h) (Or.inl ⟨by rfl, ?ty16⟩) (by assumption) ?tr16
        case ty16 => (intro w hSw; (try dsimp only at hSw); go_simp; (try with_reducible rfl))
        try simp only [Act.put, List.getElem_toArray, List.getElem_cons_zero, List.getElem_cons_succ, List.setIfInBounds_toArray, List.set_cons_zero, List.set_cons_succ]
        refine wpAnyH_ready (rs := [5]) (by kernel_rfl) (by simp) ?_
        refine AllReadyH.cons (i := 5) rfl (fun K2 hK2 => ?_) AllReadyH.nil
        rw [if_pos (by rfl)]
        refine wp_store_row 75 _ _ rfl (w.heap.size + 1 + 1 + 1) vbo rfl rfl 75 _ ((Below.block (show Gr w8 (w8.drew.setRow (w.heap.size + 1 + 1) vn) from (gr_setRow_same (Gr.drew (Gr.refl _)) T6.out)) _ (by have := TZ.out; omega)).trans T8.out) Ivbo.out rfl Ovbo.out ?_
        refine hK2.out _ _ (show Gr w8 _ from (gr_setRow_same (gr_setRow_same (Gr.drew (Gr.refl _)) T6.out) T8.out)) (fun hHeld2 => ?_)
        clear hK2 K2
        try simp only [Act.put, List.getElem_toArray, List.getElem_cons_zero, List.getElem_cons_succ]
        refine wpAnyH_done (by kernel_rfl) ?_ _
        obtain ⟨we, hwe⟩ : ∃ x, ((w8.drew.setRow (w.heap.size + 1 + 1) vn).setRow (w.heap.size + 1 + 1 + 1) vbo) = x := ⟨_, rfl⟩
        have HGE : Hid (Gr w8 we) := Lib.hid (by rw [← hwe]; exact (gr_setRow_same (gr_setRow_same (Gr.drew (Gr.refl _)) T6.out) T8.out))
        rw [hwe]
        clear hwe hHeld hHeld2 hqs a0 a1 a2 a3
        apply (by assumption : ∀ (a : Act) (w : World), Code.wp Tryz.prog Code.ret _ a w → _)
        apply wp_ret
        refine bodyPost_ret (v := .tuple #[.agg vn, .bool true, .agg vbo]) (results_row_tmp_row rfl _ _ (w.heap.size + 1 + 1) (w.heap.size + 1 + 1 + 1) 75 75 vn vbo (0, 0) (0, 0) _ rfl ((Below.block HGE.out _ (by have := TZ.out; omega)).trans T6.out) rfl ((Below.block HGE.out _ (by have := TZ.out; omega)).trans T8.out) Tryz.underlying75 rfl Ivn.out Ivbo.out _ rfl) rfl ?_
        exact ⟨by rw [if_neg HPQ.out, SD.out], gat_end HGT.out HBT.out HWL.out (But.new HGE.out)⟩
end Go.Proofs.YtchfbdbgmlcfiaaGreatDoor


/- cartularyref19.Given.says: any stretch. No condition. -/
namespace Go.Proofs.YtchfbdbgmlcfiaaGreatDoor
open Go.ChangeShapes Go.WideShapes Go.ChangeAt Go.RowKit
set_option linter.unusedVariables false
theorem sayF_len32 (f : Nat) (x : Int) (L : List (List UInt8)) (hL : H32 L) (b e : Int) (ps : List (List UInt8)) (hP : H32 ps) (hbe : b < e) (hl : (batchL f x (x + L.length) b e).length ≤ ps.length) (hp : e - b ≤ pow2 f) :
    (sayF nodeH f x (x + L.length) (leafAt x L) b e ps).1.length = 32 := by
  by_cases ho : e ≤ x ∨ x + L.length ≤ b
  · rw [batchL_out ho] at hl
    cases ps with
    | nil => simp at hl
    | cons p r => rw [sayF_out nodeH ho]; exact hP p (by simp)
  · by_cases hs : e - b < 2
    · rw [sayF_leaf nodeH ho hs]
      unfold leafAt
      have ht : (b - x).toNat < L.length := by omega
      rw [List.getD_eq_getElem?_getD, List.getElem?_eq_getElem ht]
      exact hL _ (List.getElem_mem ht)
    · cases f with
      | zero => rw [pow2_zero] at hp; omega
      | succ f => rw [sayF_node nodeH ho hs]; exact nodeH_length _ _
theorem h32_drop {l : List (List UInt8)} (h : H32 l) (k : Nat) : H32 (l.drop k) := fun y hy => h y (List.mem_of_mem_drop hy)
theorem batch_two {f : Nat} {x y b e : Int} (hs : 2 ≤ e - b) (ho : ¬ (e ≤ x ∨ y ≤ b)) : (batchL f x y b (b + blwI (e - b))).length + (batchL f x y (b + blwI (e - b)) e).length = (batchL (f + 1) x y b e).length := by
  have hb := blwI_bd (n := e - b) hs
  by_cases hi : x ≤ b ∧ e ≤ y
  · rw [batchL_in ho hi, batchL_in (by omega) (by omega), batchL_in (by omega) (by omega)]; rfl
  · rw [batchL_half ho hi, List.length_append]
theorem findF_len32 : ∀ (f : Nat) (x : Int) (L : List (List UInt8)) (hL : H32 L) (b e p q : Int) (ps : List (List UInt8)) (hP : H32 ps) (hbe : b < e) (hl : (batchL f x (x + L.length) b e).length ≤ ps.length) (hp : e - b ≤ pow2 f) (h : List UInt8),
    findF nodeH f x (x + L.length) (leafAt x L) b e ps p q = some h → h.length = 32 := by
  intro f
  induction f with
  | zero =>
    intro x L hL b e p q ps hP hbe hl hp h hh
    rw [findF] at hh
    by_cases hq : b = p ∧ e = q
    · rw [if_pos hq] at hh; cases hh; exact sayF_len32 0 x L hL b e ps hP hbe hl hp
    · rw [if_neg hq] at hh; cases hh
  | succ f ih =>
    intro x L hL b e p q ps hP hbe hl hp h hh
    by_cases hq : b = p ∧ e = q
    · rw [findF, if_pos hq] at hh; cases hh; exact sayF_len32 (f + 1) x L hL b e ps hP hbe hl hp
    · by_cases ho : (e ≤ x ∨ x + L.length ≤ b) ∨ e - b < 2
      · rw [findF_end nodeH hq ho] at hh; cases hh
      · have hb := blwI_bd (n := e - b) (by omega)
        have hk := blwI_le_pow (n := e - b) (f := f) (by omega) hp
        have hps := pow2_succ f
        have h2 := batch_two (f := f) (x := x) (y := x + L.length) (b := b) (e := e) (by omega) (by omega)
        have hr := sayF_rest nodeH f x (x + L.length) (leafAt x L) b (b + blwI (e - b)) ps (by omega) (by omega) (by omega)
        rw [findF_node nodeH hq (by omega) (by omega), Option.or_eq_some_iff] at hh
        rcases hh with hh | ⟨_, hh⟩
        · rw [hr] at hh
          exact ih x L hL _ e p q _ (h32_drop hP _) (by omega) (by rw [List.length_drop]; omega) (by omega) h hh
        · exact ih x L hL b _ p q ps hP (by omega) (by omega) (by omega) h hh
set_option maxRecDepth 100000 in
theorem rsays_any (base W : Nat) (hbW : base ≤ W) (x : Int) (hx0 : 0 ≤ x) (lA pA : Option Addr) (L ps : List (List UInt8)) (lcap pcap : Nat) (hL32 : H32 L) (hP32 : H32 ps) (hlc : L.length ≤ lcap) (hlcm : lcap ≤ 9223372036854775807) (hpc : ps.length ≤ pcap) (hpcm : pcap ≤ 9223372036854775807) (p q : Int) :
    ∀ (f : Nat) (b e : Int) (k : Nat) (w : World), GAt w W x (.slice lA L.length lcap) (.slice pA ps.length pcap) k → HAt w lA base L → HAt w pA base ps → 0 ≤ b → b < e → e ≤ 9223372036854775808 → e - b ≤ pow2 f → k + (batchL f x (x + L.length) b e).length ≤ ps.length →
    Calls Tryz.prog 29 #[.pointer (some ⟨W, 0, none⟩), .agg #[.int .u64 b, .int .u64 e], .agg #[.int .u64 p, .int .u64 q]] w
      (RP W x (.slice lA L.length lcap) (.slice pA ps.length pcap) (k + (batchL f x (x + L.length) b e).length) (sayF nodeH f x (x + L.length) (leafAt x L) b e (ps.drop k)).1 (findF nodeH f x (x + L.length) (leafAt x L) b e (ps.drop k) p q) w) := by
  intro f
  induction f with
  | zero =>
    intro b e k w hW hLA hPA hb he hem hp hbl
    have hWl : W < w.heap.size := (Array.getElem?_eq_some_iff.1 hW).1
    by_cases ho : e ≤ x ∨ x + L.length ≤ b
    · rw [batchL_out ho] at hbl ⊢
      have hkn : k < ps.length := by simp at hbl; omega
      obtain ⟨ph, hph⟩ : ∃ ph, ps[k]? = some ph := ⟨_, List.getElem?_eq_getElem hkn⟩
      have hdr : ps.drop k = ph :: ps.drop (k + 1) := by
        rw [List.drop_eq_getElem_cons hkn]; congr 1
        rw [List.getElem?_eq_getElem hkn] at hph; exact Option.some.inj hph
      have hne : ps ≠ [] := by intro q; rw [q] at hkn; simp at hkn
      obtain ⟨g, o, rfl, hr, hgb⟩ := hPA.resolve_left hne
      have hpr : w.rangeAt g (o + k * 32) (bytesV ph) := fun j v hj => by
        rw [Nat.add_assoc]; exact hr _ v (hashCells_at hP32 hph hj)
      have := rsays_out W g o ps.length pcap k L.length lcap lA x b e p q ph w hW hx0 hb he hem (by omega) hkn (by omega) (hP32.at hph) hpr
      rw [hdr, sayF_out nodeH ho]
      have hf : ∀ f', findF nodeH f' x (x + L.length) (leafAt x L) b e (ph :: ps.drop (k + 1)) p q = if b = p ∧ e = q then some ph else none := fun f' => by
        by_cases hq : b = p ∧ e = q
        · rw [if_pos hq]; obtain ⟨rfl, rfl⟩ := hq; rw [findF_self, sayF_out nodeH ho]
        · rw [if_neg hq]; exact findF_end nodeH hq (.inl ho)
      rw [hf]
      exact this
    · by_cases hs : e - b < 2
      · have hbx : x ≤ b := by omega
        obtain ⟨t, ht⟩ : ∃ t : Nat, b = x + t := ⟨(b - x).toNat, by omega⟩
        have htm : t < L.length := by omega
        obtain ⟨ph, hp2⟩ : ∃ p, L[t]? = some p := ⟨_, List.getElem?_eq_getElem htm⟩
        have hne : L ≠ [] := by intro q; rw [q] at htm; simp at htm
        obtain ⟨g, o, rfl, hr, hgb⟩ := hLA.resolve_left hne
        have hpr : w.rangeAt g (o + t * 32) (bytesV ph) := fun j v hj => by
          rw [Nat.add_assoc]; exact hr _ v (hashCells_at hL32 hp2 hj)
        have hla : leafAt x L b = ph := by unfold leafAt; rw [show (b - x).toNat = t by omega, List.getD_eq_getElem?_getD, hp2]; rfl
        have := rsays_leaf W g o lcap k L.length t (.slice pA ps.length pcap) x b e p q ph w hW hx0 ht he hem hs htm hlc hlcm (hL32.at hp2) hpr
        rw [batchL_in ho (by omega), sayF_leaf nodeH ho hs, hla]
        have hf : ∀ f', findF nodeH f' x (x + L.length) (leafAt x L) b e (ps.drop k) p q = if b = p ∧ e = q then some ph else none := fun f' => by
          by_cases hq : b = p ∧ e = q
          · rw [if_pos hq]; obtain ⟨rfl, rfl⟩ := hq; rw [findF_self, sayF_leaf nodeH ho hs, hla]
          · rw [if_neg hq]; exact findF_end nodeH hq (.inr hs)
        rw [hf]
        exact this
      · exfalso; rw [pow2_zero] at hp; omega
  | succ f ih =>
    intro b e k w hW hLA hPA hb he hem hp hbl
    have hWl : W < w.heap.size := (Array.getElem?_eq_some_iff.1 hW).1
    by_cases ho : e ≤ x ∨ x + L.length ≤ b
    · rw [batchL_out ho] at hbl ⊢
      have hkn : k < ps.length := by simp at hbl; omega
      obtain ⟨ph, hph⟩ : ∃ ph, ps[k]? = some ph := ⟨_, List.getElem?_eq_getElem hkn⟩
      have hdr : ps.drop k = ph :: ps.drop (k + 1) := by
        rw [List.drop_eq_getElem_cons hkn]; congr 1
        rw [List.getElem?_eq_getElem hkn] at hph; exact Option.some.inj hph
      have hne : ps ≠ [] := by intro q; rw [q] at hkn; simp at hkn
      obtain ⟨g, o, rfl, hr, hgb⟩ := hPA.resolve_left hne
      have hpr : w.rangeAt g (o + k * 32) (bytesV ph) := fun j v hj => by
        rw [Nat.add_assoc]; exact hr _ v (hashCells_at hP32 hph hj)
      have := rsays_out W g o ps.length pcap k L.length lcap lA x b e p q ph w hW hx0 hb he hem (by omega) hkn (by omega) (hP32.at hph) hpr
      rw [hdr, sayF_out nodeH ho]
      have hf : ∀ f', findF nodeH f' x (x + L.length) (leafAt x L) b e (ph :: ps.drop (k + 1)) p q = if b = p ∧ e = q then some ph else none := fun f' => by
        by_cases hq : b = p ∧ e = q
        · rw [if_pos hq]; obtain ⟨rfl, rfl⟩ := hq; rw [findF_self, sayF_out nodeH ho]
        · rw [if_neg hq]; exact findF_end nodeH hq (.inl ho)
      rw [hf]
      exact this
    · by_cases hs : e - b < 2
      · have hbx : x ≤ b := by omega
        obtain ⟨t, ht⟩ : ∃ t : Nat, b = x + t := ⟨(b - x).toNat, by omega⟩
        have htm : t < L.length := by omega
        obtain ⟨ph, hp2⟩ : ∃ p, L[t]? = some p := ⟨_, List.getElem?_eq_getElem htm⟩
        have hne : L ≠ [] := by intro q; rw [q] at htm; simp at htm
        obtain ⟨g, o, rfl, hr, hgb⟩ := hLA.resolve_left hne
        have hpr : w.rangeAt g (o + t * 32) (bytesV ph) := fun j v hj => by
          rw [Nat.add_assoc]; exact hr _ v (hashCells_at hL32 hp2 hj)
        have hla : leafAt x L b = ph := by unfold leafAt; rw [show (b - x).toNat = t by omega, List.getD_eq_getElem?_getD, hp2]; rfl
        have := rsays_leaf W g o lcap k L.length t (.slice pA ps.length pcap) x b e p q ph w hW hx0 ht he hem hs htm hlc hlcm (hL32.at hp2) hpr
        rw [batchL_in ho (by omega), sayF_leaf nodeH ho hs, hla]
        have hf : ∀ f', findF nodeH f' x (x + L.length) (leafAt x L) b e (ps.drop k) p q = if b = p ∧ e = q then some ph else none := fun f' => by
          by_cases hq : b = p ∧ e = q
          · rw [if_pos hq]; obtain ⟨rfl, rfl⟩ := hq; rw [findF_self, sayF_leaf nodeH ho hs, hla]
          · rw [if_neg hq]; exact findF_end nodeH hq (.inr hs)
        rw [hf]
        exact this
      · skip
        have hbd := blwI_bd (n := e - b) (by omega)
        have hkp := blwI_le_pow (n := e - b) (f := f) (by omega) hp
        have hps := pow2_succ f
        have h2 := batch_two (f := f) (x := x) (y := x + L.length) (b := b) (e := e) (by omega) ho
        have hr := sayF_rest nodeH f x (x + L.length) (leafAt x L) b (b + blwI (e - b)) (ps.drop k) (by omega) (by omega) (by rw [List.length_drop]; omega)
        rw [List.drop_drop] at hr
        have hrule : ∀ (w' : World), But (· = W) w w' → HAt w' lA base L ∧ HAt w' pA base ps := fun w' hB =>
          ⟨hLA.same (fun g hg hl => hB.same g hl (by omega)) hL32, hPA.same (fun g hg hl => hB.same g hl (by omega)) hP32⟩
        have d32 := h32_drop hP32 k
        have := rsays_node W k (k + (batchL f x (x + L.length) b (b + blwI (e - b))).length) (k + (batchL (f + 1) x (x + L.length) b e).length) L.length lcap lA (.slice pA ps.length pcap) x b e (b + blwI (e - b)) p q
          (sayF nodeH f x (x + L.length) (leafAt x L) b (b + blwI (e - b)) (ps.drop k)).1 (sayF nodeH f x (x + L.length) (leafAt x L) (b + blwI (e - b)) e (sayF nodeH f x (x + L.length) (leafAt x L) b (b + blwI (e - b)) (ps.drop k)).2).1
          (findF nodeH f x (x + L.length) (leafAt x L) b (b + blwI (e - b)) (ps.drop k) p q) (findF nodeH f x (x + L.length) (leafAt x L) (b + blwI (e - b)) e (sayF nodeH f x (x + L.length) (leafAt x L) b (b + blwI (e - b)) (ps.drop k)).2 p q)
          w hW hx0 (by omega) hb hem (by omega) (by omega) (by omega) rfl
          (sayF_len32 f x L hL32 _ _ _ d32 (by omega) (by rw [List.length_drop]; omega) (by omega))
          (by rw [hr]; exact sayF_len32 f x L hL32 _ _ _ (h32_drop hP32 _) (by omega) (by rw [List.length_drop]; omega) (by omega))
          (findF_len32 f x L hL32 _ _ p q _ d32 (by omega) (by rw [List.length_drop]; omega) (by omega))
          (by rw [hr]; exact findF_len32 f x L hL32 _ _ p q _ (h32_drop hP32 _) (by omega) (by rw [List.length_drop]; omega) (by omega))
          (fun w' hB hG => ih b _ k w' hG (hrule w' hB).1 (hrule w' hB).2 hb (by omega) (by omega) (by omega) (by omega))
          (fun w' hB hG => by
            have := ih (b + blwI (e - b)) e (k + (batchL f x (x + L.length) b (b + blwI (e - b))).length) w' hG (hrule w' hB).1 (hrule w' hB).2 (by omega) (by omega) hem (by omega) (by omega)
            rw [hr]
            rw [Nat.add_assoc, h2] at this
            exact this)
        have hfe : findF nodeH (f + 1) x (x + L.length) (leafAt x L) b e (ps.drop k) p q = if b = p ∧ e = q then some (nodeH (sayF nodeH f x (x + L.length) (leafAt x L) b (b + blwI (e - b)) (ps.drop k)).1 (sayF nodeH f x (x + L.length) (leafAt x L) (b + blwI (e - b)) e (sayF nodeH f x (x + L.length) (leafAt x L) b (b + blwI (e - b)) (ps.drop k)).2).1)
            else (findF nodeH f x (x + L.length) (leafAt x L) (b + blwI (e - b)) e (sayF nodeH f x (x + L.length) (leafAt x L) b (b + blwI (e - b)) (ps.drop k)).2 p q).or (findF nodeH f x (x + L.length) (leafAt x L) b (b + blwI (e - b)) (ps.drop k) p q) := by
          by_cases hq : b = p ∧ e = q
          · rw [if_pos hq]; obtain ⟨rfl, rfl⟩ := hq; rw [findF_self, sayF_node nodeH ho hs]
          · rw [if_neg hq]; exact findF_node nodeH hq ho hs
        rw [sayF_node nodeH ho hs, hfe]
        exact this
end Go.Proofs.YtchfbdbgmlcfiaaGreatDoor


