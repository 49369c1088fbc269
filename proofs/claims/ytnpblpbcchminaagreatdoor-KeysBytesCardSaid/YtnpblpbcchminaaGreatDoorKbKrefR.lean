import Derived.Test.YtnpblpbcchminaaGreatDoorKbKrefC
import Derived.Test.YtnpblpbcchminaaGreatDoorKbKeysRst
import Derived.Test.YtnpblpbcchminaaGreatDoorKbRef18
/- cartularyref02.Reader: bad, fail, take, Hash, End. Condition: the table reads as listed. -/
namespace Go.Proofs.YtnpblpbcchminaaGreatDoor
open Go.ChangeShapes Go.WideShapes Go.ChangeAt Go.RowKit
set_option linter.unusedVariables false

def QOk (p : Nat) (w : World) (S : ByteArray) (i : Nat) : Prop := w.heap[p]? = some (.cells #[.string S, .int .i64 (i : Nat), .int .i64 0, .int .i64 0] 126 (0, 0)) ∧ i ≤ S.size ∧ S.size ≤ 9223372036854775807
def QBad (p : Nat) (w : World) (S : ByteArray) : Prop := ∃ i k : Nat, w.heap[p]? = some (.cells #[.string S, .int .i64 (i : Nat), .int .i64 3, .int .i64 (k : Nat)] 126 (0, 0)) ∧ i ≤ S.size ∧ S.size ≤ 9223372036854775807
def QSt (p : Nat) (w : World) (S : ByteArray) : Option Nat → Prop
  | some i => QOk p w S i
  | none => QBad p w S
theorem QOk.lt {p : Nat} {w : World} {S : ByteArray} {i : Nat} (h : QOk p w S i) : p < w.heap.size := (Array.getElem?_eq_some_iff.1 h.1).1
theorem QBad.lt {p : Nat} {w : World} {S : ByteArray} (h : QBad p w S) : p < w.heap.size := by
  obtain ⟨i, k, h, -⟩ := h
  exact (Array.getElem?_eq_some_iff.1 h).1
theorem QOk.below {p : Nat} {w w' : World} {S : ByteArray} {i : Nat} (h : QOk p w S i) (hb : Below w.heap.size w w') : QOk p w' S i := ⟨(hb.block _ h.lt).trans h.1, h.2⟩
theorem QBad.below {p : Nat} {w w' : World} {S : ByteArray} (h : QBad p w S) (hb : Below w.heap.size w w') : QBad p w' S := by
  have hl := h.lt
  obtain ⟨i, k, h, h2⟩ := h
  exact ⟨i, k, (hb.block _ hl).trans h, h2⟩
theorem QSt.lt {p : Nat} {w : World} {S : ByteArray} {o : Option Nat} (h : QSt p w S o) : p < w.heap.size := by
  cases o with
  | none => exact QBad.lt h
  | some i => exact QOk.lt h
theorem QSt.below {p : Nat} {w w' : World} {S : ByteArray} {o : Option Nat} (h : QSt p w S o) (hb : Below w.heap.size w w') : QSt p w' S o := by
  cases o with
  | none => exact QBad.below h hb
  | some i => exact QOk.below h hb
theorem QSt.row {p : Nat} {w : World} {S : ByteArray} {o : Option Nat} (h : QSt p w S o) : ∃ rv, w.heap[p]? = some (.cells rv 126 (0, 0)) ∧ ∀ w' : World, w'.heap[p]? = some (.cells rv 126 (0, 0)) → QSt p w' S o := by
  cases o with
  | none =>
    obtain ⟨i, k, h1, h2⟩ := h
    exact ⟨_, h1, fun w' h' => ⟨i, k, h', h2⟩⟩
  | some i => exact ⟨_, h.1, fun w' h' => ⟨h', h.2⟩⟩
set_option maxRecDepth 100000 in
set_option maxHeartbeats 8000000 in
theorem qbad_ok (p i : Nat) (S : ByteArray) (w : World) (h : QOk p w S i) : Calls Tryz.prog 178 #[.pointer (some ⟨p, 0, none⟩)] w fun ev w' => ev = .returned (.bool false) ∧ w = w' := by
  have hrow := h.1
  have c0 : w.cell? ⟨p, 0, none⟩ = some (.string S) := (cell_of_row w p 0 _ 126 (0, 0) hrow).trans rfl
  have c1 : w.cell? ⟨p, 1, none⟩ = some (.int .i64 (i : Nat)) := (cell_of_row w p 1 _ 126 (0, 0) hrow).trans rfl
  have c2 : w.cell? ⟨p, 2, none⟩ = some (.int .i64 0) := (cell_of_row w p 2 _ 126 (0, 0) hrow).trans rfl
  have c3 : w.cell? ⟨p, 3, none⟩ = some (.int .i64 0) := (cell_of_row w p 3 _ 126 (0, 0) hrow).trans rfl
  clear hrow h
  go_enter Tryz.func178, Tryz.ntmps178
  go_wp2
  go_ret
  exact ⟨rfl, rfl⟩
set_option maxRecDepth 100000 in
set_option maxHeartbeats 8000000 in
theorem qbad_bad (p : Nat) (S : ByteArray) (w : World) (h : QBad p w S) : Calls Tryz.prog 178 #[.pointer (some ⟨p, 0, none⟩)] w fun ev w' => ev = .returned (.bool true) ∧ w = w' := by
  obtain ⟨i, k, hrow, h2⟩ := h
  have c0 : w.cell? ⟨p, 0, none⟩ = some (.string S) := (cell_of_row w p 0 _ 126 (0, 0) hrow).trans rfl
  have c1 : w.cell? ⟨p, 1, none⟩ = some (.int .i64 (i : Nat)) := (cell_of_row w p 1 _ 126 (0, 0) hrow).trans rfl
  have c2 : w.cell? ⟨p, 2, none⟩ = some (.int .i64 3) := (cell_of_row w p 2 _ 126 (0, 0) hrow).trans rfl
  have c3 : w.cell? ⟨p, 3, none⟩ = some (.int .i64 (k : Nat)) := (cell_of_row w p 3 _ 126 (0, 0) hrow).trans rfl
  clear hrow
  go_enter Tryz.func178, Tryz.ntmps178
  go_wp2
  go_ret
  exact ⟨rfl, rfl⟩
set_option maxRecDepth 100000 in
set_option maxHeartbeats 8000000 in
theorem placed_any (k : Nat) (w : World) : Calls Tryz.prog 180 #[.int .i64 3, .int .i64 k] w fun ev w' => ev = .returned (.agg #[.int .i64 3, .int .i64 k]) ∧ Below w.heap.size w w' := by
  go_enter Tryz.func180, Tryz.ntmps180
  go_wp2
  refine bodyPost_ret (v := .agg #[.int .i64 3, .int .i64 k]) (by simp [results, Tryz.results180, go_sem]) rfl ⟨rfl, ?_⟩
  repeat (first | exact Below.refl _ _ | (refine below_drewN ?_) | (refine Below.drew ?_) | (refine Below.alloc ?_ (by simp; try omega) _) | (refine Below.setCell ?_ (by simp; try omega) _))

set_option maxRecDepth 100000 in
set_option maxHeartbeats 8000000 in
theorem qfail_ok (p i k : Nat) (S : ByteArray) (w : World) (h : QOk p w S i) : Calls Tryz.prog 179 #[.pointer (some ⟨p, 0, none⟩), .agg #[.int .i64 3, .int .i64 k]] w fun ev w' => ev = .returned (.tuple #[]) ∧ QBad p w' S ∧ But (· = p) w w' := by
  obtain ⟨vf, hvf⟩ : ∃ y : Array Value, #[.int .i64 3, .int .i64 k] = y := ⟨_, rfl⟩
  have Zvf : Hid (vf.size = 2) := Lib.hid (by rw [← hvf]; rfl)
  have Ivf : Hid ((Tryz.prog.info? 34).map (·.size) = some vf.size) := Lib.hid (by rw [Zvf.out]; kernel_rfl)
  have Ovf : Hid (vf.all (·.oneCell') = true) := Lib.hid (by rw [← hvf]; simp [Value.oneCell'])
  obtain ⟨wv, hwv⟩ : ∃ y9 : World, (w.alloc (.cells vf 34)) = y9 := ⟨_, rfl⟩
  have HBv : Hid (Below w.heap.size w wv) := Lib.hid (by rw [← hwv]; exact ((Below.refl _ _).alloc (by simp <;> omega) _))
  have HSV : Hid (wv.heap.size = w.heap.size + 1) := Lib.hid (by rw [← hwv]; simp)
  have RA : Hid (wv.heap[w.heap.size]? = some (.cells vf 34 (0, 0))) := Lib.hid (by rw [← hwv]; exact heap_at _ _ _ (by simp <;> omega))
  have HWV := Lib.hid hwv
  have hsv := HSV.out
  have hpl := h.lt
  have HH := Lib.hid (h.below HBv.out)
  have HB9 := Lib.hid (qbad_ok p i S wv HH.out)
  have HT9 : Hid (wv.there p 2 2) := Lib.hid (there_row (cs := [.string S, .int .i64 (i : Nat), .int .i64 0, .int .i64 0]) HH.out.1 (by simp))
  have HVF := Lib.hid hvf
  rw [hvf]
  clear h hwv hvf
  go_enter Tryz.func179, Tryz.ntmps179
  go_upto_region 1 with fail
  rw [HWV.out]
  go_wp2_with fail
  refine HB9.out.mono ?_
  rintro ev w1 ⟨rfl, rfl⟩
  go_wp2_with (first
    | (refine wpList_load_row rfl 34 _ rfl w.heap.size rfl 34 vf (0, 0) _ RA.out Tryz.underlying34 rfl Ivf.out ?_)
    | (refine wpList_store_mid rfl 34 _ _ rfl p 2 vf rfl rfl (by rw [Zvf.out]; exact HT9.out) Ivf.out Ovf.out ?_))
  refine bodyPost_end (results_none rfl _ _ _) rfl ⟨rfl, ⟨i, k, ?_, HH.out.2⟩, ?_⟩
  · have := heap_setCells_at (vf.toList) 2 wv [.string S, .int .i64 (i : Nat), .int .i64 0, .int .i64 0] HH.out.1
    rw [← HVF.out] at this ⊢
    exact this
  · exact (but_of p HBv.out).step ((But.refl _ wv).setCells (fun _ => rfl)) (fun _ _ q => q.symm)
set_option maxRecDepth 100000 in
set_option maxHeartbeats 8000000 in
theorem qtake_yes (p i j : Nat) (S : ByteArray) (w : World) (h : QOk p w S i) (hk : i + 32 ≤ S.size) : Calls Tryz.prog 181 #[.pointer (some ⟨p, 0, none⟩), .int .i64 32, .int .i64 (j : Nat)] w fun ev w' => ev = .returned (.tuple #[.string (S.extract i (i + 32)), .bool true]) ∧ QOk p w' S (i + 32) ∧ But (· = p) w w' := by
  have HB9 := Lib.hid (qbad_ok p i S w h)
  have HH := Lib.hid h
  have hrow := h.1
  have c0 : w.cell? ⟨p, 0, none⟩ = some (.string S) := (cell_of_row w p 0 _ 126 (0, 0) hrow).trans rfl
  have c1 : w.cell? ⟨p, 1, none⟩ = some (.int .i64 (i : Nat)) := (cell_of_row w p 1 _ 126 (0, 0) hrow).trans rfl
  have c2 : w.cell? ⟨p, 2, none⟩ = some (.int .i64 0) := (cell_of_row w p 2 _ 126 (0, 0) hrow).trans rfl
  have c3 : w.cell? ⟨p, 3, none⟩ = some (.int .i64 0) := (cell_of_row w p 3 _ 126 (0, 0) hrow).trans rfl
  have f1 := frozen_of_row w p 1 _ 126 hrow
  have hi9 := h.2
  have e1 : IntKind.i64.wrap ((S.size : Int) - i) = (S.size : Int) - i := IntWalk.i64_in _ (by omega)
  have e2 : decide ((S.size : Int) - i < 32) = false := by simp; omega
  have e3 : IntKind.i64.wrap ((i : Int) + 32) = (i : Int) + 32 := IntWalk.i64_in _ (by omega)
  have k0 : (0 : Int) ≤ i := by omega
  have k1 : (i : Int) ≤ (i : Int) + 32 := by omega
  have k2 : (i : Int) + 32 ≤ S.size := by omega
  have k3 : ((i : Int) + 32).toNat = i + 32 := by omega
  clear h hrow
  go_enter Tryz.func181, Tryz.ntmps181
  go_wp2_with fail
  refine HB9.out.mono ?_
  rintro ev w1 ⟨rfl, rfl⟩
  go_upto_region 3 with fail
  go_quiet (fail)
  go_upto_region 6 with fail
  go_quiet (fail)
  go_wp2_with fail
  go_ret2
  refine ⟨rfl, ⟨?_, hk, hi9.2⟩, ?_⟩
  · have := heap_setCell_same _ p 1 _ 126 (.int .i64 ((i : Int) + 32)) HH.out.1
    rw [show ((i + 32 : Nat) : Int) = (i : Int) + 32 by omega]
    exact this
  · exact (but_of p (below_drewN (Below.refl _ _))).setCell _ _ _ (fun _ => rfl)
set_option maxRecDepth 100000 in
set_option maxHeartbeats 8000000 in
theorem qtake_no (p i j : Nat) (S : ByteArray) (w : World) (h : QOk p w S i) (hk : S.size < i + 32) : Calls Tryz.prog 181 #[.pointer (some ⟨p, 0, none⟩), .int .i64 32, .int .i64 (j : Nat)] w fun ev w' => ev = .returned (.tuple #[.string ⟨#[]⟩, .bool false]) ∧ QBad p w' S ∧ But (· = p) w w' := by
  have HB9 := Lib.hid (qbad_ok p i S w h)
  have HH := Lib.hid h
  have hrow := h.1
  have c0 : w.cell? ⟨p, 0, none⟩ = some (.string S) := (cell_of_row w p 0 _ 126 (0, 0) hrow).trans rfl
  have c1 : w.cell? ⟨p, 1, none⟩ = some (.int .i64 (i : Nat)) := (cell_of_row w p 1 _ 126 (0, 0) hrow).trans rfl
  have c2 : w.cell? ⟨p, 2, none⟩ = some (.int .i64 0) := (cell_of_row w p 2 _ 126 (0, 0) hrow).trans rfl
  have c3 : w.cell? ⟨p, 3, none⟩ = some (.int .i64 0) := (cell_of_row w p 3 _ 126 (0, 0) hrow).trans rfl
  have hi9 := h.2
  have e1 : IntKind.i64.wrap ((S.size : Int) - i) = (S.size : Int) - i := IntWalk.i64_in _ (by omega)
  have e2 : decide ((S.size : Int) - i < 32) = true := by simp; omega
  have HPL := Lib.hid (fun w' => placed_any j w')
  have HFL : Hid (∀ w', Below w.heap.size w w' → Calls Tryz.prog 179 #[.pointer (some ⟨p, 0, none⟩), .agg #[.int .i64 3, .int .i64 (j : Nat)]] w' fun ev w2 => ev = .returned (.tuple #[]) ∧ QBad p w2 S ∧ But (· = p) w' w2) := Lib.hid (fun w' hb => qfail_ok p i j S w' (HH.out.below hb))
  clear h hrow
  go_enter Tryz.func181, Tryz.ntmps181
  go_wp2_with fail
  refine HB9.out.mono ?_
  rintro ev w1 ⟨rfl, rfl⟩
  go_upto_region 3 with fail
  go_quiet (fail)
  go_wp2_with fail
  refine (HPL.out _).mono ?_
  rintro ev w2 ⟨rfl, b2⟩
  have B2 := Lib.hid ((below_drewN (Below.refl w.heap.size w)).trans (b2.mono (by simp)))
  clear b2
  go_wp2_with fail
  refine (HFL.out w2 B2.out).mono ?_
  rintro ev w3 ⟨rfl, q3, b3⟩
  have Q3 := Lib.hid q3
  have B3 := Lib.hid ((but_of p B2.out).trans b3)
  clear q3 b3
  go_wp2_with fail
  go_ret2
  exact ⟨rfl, Q3.out, B3.out⟩
set_option maxRecDepth 100000 in
set_option maxHeartbeats 8000000 in
theorem qtake_bad (p j : Nat) (S : ByteArray) (w : World) (h : QBad p w S) : Calls Tryz.prog 181 #[.pointer (some ⟨p, 0, none⟩), .int .i64 32, .int .i64 (j : Nat)] w fun ev w' => ev = .returned (.tuple #[.string ⟨#[]⟩, .bool false]) ∧ w = w' := by
  have HB9 := Lib.hid (qbad_bad p S w h)
  clear h
  go_enter Tryz.func181, Tryz.ntmps181
  go_wp2_with fail
  refine HB9.out.mono ?_
  rintro ev w1 ⟨rfl, rfl⟩
  go_wp2_with fail
  go_ret2
  exact ⟨rfl, rfl⟩

set_option maxRecDepth 100000 in
set_option maxHeartbeats 8000000 in
theorem qend_done (p : Nat) (i : Nat) (S : ByteArray) (w : World) (h : QOk p w S i) (hk : i = S.size) : Calls Tryz.prog 116 #[.pointer (some ⟨p, 0, none⟩)] w fun ev w' => (ev = .returned (.agg #[.int .i64 0, .int .i64 0])) ∧ Below w.heap.size w w' := by
  obtain ⟨wv, hwv⟩ : ∃ y9 : World, (w.alloc (.cells #[.int .i64 0, .int .i64 0] 34)) = y9 := ⟨_, rfl⟩
  have HBv : Hid (Below w.heap.size w wv) := Lib.hid (by rw [← hwv]; exact ((Below.refl _ _).alloc (by simp <;> omega) _))
  have HSV : Hid (wv.heap.size = w.heap.size + 1) := Lib.hid (by rw [← hwv]; simp)
  have RF : Hid (wv.heap[w.heap.size]? = some (.cells #[.int .i64 0, .int .i64 0] 34 (0, 0))) := Lib.hid (by rw [← hwv]; exact heap_at _ _ _ (by simp <;> omega))
  have HWV := Lib.hid hwv
  have hsv := HSV.out
  have hpl := h.lt
  have HH := Lib.hid (h.below HBv.out)
  have hi9 := h.2
  have HB9 : Hid (∀ w', But (fun _ => False) wv w' → Calls Tryz.prog 178 #[.pointer (some ⟨p, 0, none⟩)] w' fun ev w2 => ev = .returned (.bool false) ∧ Below w'.heap.size w' w2) := Lib.hid (fun w' hw => (qbad_ok p i S w' (HH.out.below (But.to_below hw (Nat.le_refl _) (fun _ _ q => q)))).mono (fun _ _ q => ⟨q.1, by rw [← q.2]; exact Below.refl _ _⟩))
  have e2 : decide ((i : Int) < S.size) = false := by simp; omega
  have KR : Hid (∀ w', But (fun _ => False) wv w' → w'.cell? ⟨p, 0, none⟩ = some (.string S) ∧ w'.cell? ⟨p, 1, none⟩ = some (.int .i64 (i : Nat)) ∧ w'.cell? ⟨p, 2, none⟩ = some (.int .i64 0) ∧ w'.cell? ⟨p, 3, none⟩ = some (.int .i64 0)) := Lib.hid (fun w' hw => by
    have hg := (hw.same p (Array.getElem?_eq_some_iff.1 HH.out.1).1 (fun q => q)).trans HH.out.1
    exact ⟨(cell_of_row w' p 0 _ 126 (0, 0) hg).trans rfl, (cell_of_row w' p 1 _ 126 (0, 0) hg).trans rfl, (cell_of_row w' p 2 _ 126 (0, 0) hg).trans rfl, (cell_of_row w' p 3 _ 126 (0, 0) hg).trans rfl⟩)
  clear h hwv 
  go_enter Tryz.func116, Tryz.ntmps116
  go_upto_region 1 with fail
  rw [HWV.out]
  refine wp_region_held_drew (S := But (fun _ => False) wv) (by kernel_rfl) (But.refl _ _).drew (fun hHeld => ?_)
  refine tk (i := 0) (v := ?v1) rfl ?y1 ?r1
  case y1 => (intro w hSw; (try dsimp only at hSw); go_simp; (try with_reducible rfl))
  try simp only [pu]
  refine wpAnyH_ready (rs := [1]) (by kernel_rfl) (by simp) ?_
  refine AllReadyH.cons (i := 1) rfl (fun K2 hK2 => ?_) AllReadyH.nil
  go_simp
  go_at_call 178
  refine (HB9.out wv.drew ((But.refl (fun _ => False) wv).drew)).mono ?_
  rintro ev w701 ⟨rfl, bw701⟩
  try go_wp2_with fail
  obtain ⟨Kw701, fw701⟩ := st_call ((But.refl (fun _ => False) wv).drew) bw701
  have Kw701 := Lib.hid Kw701
  clear bw701 fw701
  refine hK2.out _ _ Kw701.out (fun hHeld2 => ?_)
  clear hK2 K2
  try simp only [pu]
  refine tk (i := 2) (v := ?v2) rfl ?y2 ?r2
  case y2 => (intro w hSw; (try dsimp only at hSw); go_simp; (try with_reducible rfl))
  try simp only [pu]
  refine tk (i := 3) (v := ?v3) rfl ?y3 ?r3
  case y3 => (intro w hSw; (try dsimp only at hSw); go_simp; (try with_reducible rfl))
  try simp only [pu]
  refine tk (i := 4) (v := ?v4) rfl ?y4 ?r4
  case y4 => (intro w hSw; (try dsimp only at hSw); go_simp; (try with_reducible rfl))
  try simp only [pu]
  refine tk (i := 5) (v := ?v5) rfl ?y5 ?r5
  case y5 => (intro w hSw; (try dsimp only at hSw); go_simp; (try with_reducible rfl))
  try simp only [pu]
  refine tk (i := 6) (v := ?v6) rfl ?y6 ?r6
  case y6 => (intro w hSw; (try dsimp only at hSw); go_simp; (try with_reducible rfl))
  try simp only [pu]
  refine tk (i := 7) (v := ?v7) rfl ?y7 ?r7
  case y7 => (intro w hSw; (try dsimp only at hSw); obtain ⟨z0, z1, z2, z3⟩ := KR.out w hSw; go_simp; (try with_reducible rfl))
  try simp only [pu]
  refine tk (i := 8) (v := ?v8) rfl ?y8 ?r8
  case y8 => (intro w hSw; (try dsimp only at hSw); go_simp; (try with_reducible rfl))
  try simp only [pu]
  refine tk (i := 9) (v := ?v9) rfl ?y9 ?r9
  case y9 => (intro w hSw; (try dsimp only at hSw); go_simp; (try with_reducible rfl))
  try simp only [pu]
  refine tk (i := 10) (v := ?v10) rfl ?y10 ?r10
  case y10 => (intro w hSw; (try dsimp only at hSw); go_simp; (try with_reducible rfl))
  try simp only [pu]
  refine tk (i := 11) (v := ?v11) rfl ?y11 ?r11
  case y11 => (intro w hSw; (try dsimp only at hSw); obtain ⟨z0, z1, z2, z3⟩ := KR.out w hSw; go_simp; (try with_reducible rfl))
  try simp only [pu]
  refine tk (i := 12) (v := ?v12) rfl ?y12 ?r12
  case y12 => (intro w hSw; (try dsimp only at hSw); go_simp; (try with_reducible rfl))
  try simp only [pu]
  refine tk (i := 13) (v := ?v13) rfl ?y13 ?r13
  case y13 => (intro w hSw; (try dsimp only at hSw); go_simp; (try with_reducible rfl))
  try simp only [pu]
  refine tk (i := 14) (v := ?v14) rfl ?y14 ?r14
  case y14 => (intro w hSw; (try dsimp only at hSw); go_simp; (try with_reducible rfl))
  try simp only [pu]
  refine wpAnyH_done (by kernel_rfl) ?_ _
  obtain ⟨w1, hnw1⟩ : ∃ y9 : World, w701 = y9 := ⟨_, rfl⟩
  have Bw1 : Hid (Below wv.heap.size wv w1) := Lib.hid (by rw [← hnw1]; exact But.to_below Kw701.out (Nat.le_refl _) (fun _ _ q => q))
  rw [hnw1]
  clear hnw1 hHeld hHeld2
  have hr1 := (Bw1.out.block _ (by omega)).trans HH.out.1
  have d0 : w1.cell? ⟨p, 0, none⟩ = some (.string S) := (cell_of_row w1 p 0 _ 126 (0, 0) hr1).trans rfl
  have d1 : w1.cell? ⟨p, 1, none⟩ = some (.int .i64 (i : Nat)) := (cell_of_row w1 p 1 _ 126 (0, 0) hr1).trans rfl
  have d2 : w1.cell? ⟨p, 2, none⟩ = some (.int .i64 0) := (cell_of_row w1 p 2 _ 126 (0, 0) hr1).trans rfl
  have d3 : w1.cell? ⟨p, 3, none⟩ = some (.int .i64 0) := (cell_of_row w1 p 3 _ 126 (0, 0) hr1).trans rfl
  have RF1 := Lib.hid ((Bw1.out.block _ (by omega)).trans RF.out)
  have B1 := Lib.hid (HBv.out.trans (Bw1.out.mono HBv.out.size))
  have HRG : Hid (w1.rangeAt p 2 [.int .i64 0, .int .i64 0]) := Lib.hid (fun j v hj => by
    match j, hj with
    | 0, hj => simp at hj; subst hj; exact d2
    | 1, hj => simp at hj; subst hj; exact d3
    | j + 2, hj => simp at hj)
  obtain ⟨lf, hlf⟩ : ∃ y : List Value, [.int .i64 0, .int .i64 0] = y := ⟨_, rfl⟩
  have Ilf : Hid ((Tryz.prog.info? 34).map (·.size) = some lf.length) := Lib.hid (by rw [← hlf]; kernel_rfl)
  have Olf : Hid (lf.toArray.all (·.oneCell') = true) := Lib.hid (by rw [← hlf]; simp [Value.oneCell'])
  have Zlf : Hid (lf.toArray.size = 2) := Lib.hid (by rw [← hlf]; rfl)
  have HLF := Lib.hid hlf
  rw [hlf] at HRG
  clear hr1 hlf
  go_wp2_with (first
    | (refine wpList_load_mid rfl 34 _ rfl p 2 rfl lf _ HRG.out Tryz.underlying34 rfl Ilf.out ?_)
    | (refine wpList_store_row rfl 34 _ _ rfl w.heap.size lf.toArray rfl rfl 34 _ RF1.out (by rw [Zlf.out]; kernel_rfl) (by rw [Zlf.out]; rfl) Olf.out ?_))
  refine bodyPost_ret (v := .agg lf.toArray) (results_cell_row rfl _ _ w.heap.size 34 lf.toArray (0, 0) _ rfl (setRow_heap _ _ _ _ _ _ RF1.out) Tryz.underlying34 rfl (by rw [Zlf.out]; kernel_rfl)) rfl ⟨by rw [← HLF.out], below_setRow B1.out _ _ (Nat.le_refl _)⟩

set_option maxRecDepth 100000 in
set_option maxHeartbeats 8000000 in
theorem qend_left (p : Nat) (i : Nat) (S : ByteArray) (w : World) (h : QOk p w S i) (hk : i < S.size) : Calls Tryz.prog 116 #[.pointer (some ⟨p, 0, none⟩)] w fun ev w' => (ev = .returned (.agg #[.int .i64 3, .int .i64 (i : Nat)])) ∧ Below w.heap.size w w' := by
  obtain ⟨wv, hwv⟩ : ∃ y9 : World, (w.alloc (.cells #[.int .i64 0, .int .i64 0] 34)) = y9 := ⟨_, rfl⟩
  have HBv : Hid (Below w.heap.size w wv) := Lib.hid (by rw [← hwv]; exact ((Below.refl _ _).alloc (by simp <;> omega) _))
  have HSV : Hid (wv.heap.size = w.heap.size + 1) := Lib.hid (by rw [← hwv]; simp)
  have RF : Hid (wv.heap[w.heap.size]? = some (.cells #[.int .i64 0, .int .i64 0] 34 (0, 0))) := Lib.hid (by rw [← hwv]; exact heap_at _ _ _ (by simp <;> omega))
  have HWV := Lib.hid hwv
  have hsv := HSV.out
  have hpl := h.lt
  have HH := Lib.hid (h.below HBv.out)
  have hi9 := h.2
  have HB9 : Hid (∀ w', But (fun _ => False) wv w' → Calls Tryz.prog 178 #[.pointer (some ⟨p, 0, none⟩)] w' fun ev w2 => ev = .returned (.bool false) ∧ Below w'.heap.size w' w2) := Lib.hid (fun w' hw => (qbad_ok p i S w' (HH.out.below (But.to_below hw (Nat.le_refl _) (fun _ _ q => q)))).mono (fun _ _ q => ⟨q.1, by rw [← q.2]; exact Below.refl _ _⟩))
  have e2 : decide ((i : Int) < S.size) = true := by simp; omega
  have KR : Hid (∀ w', But (fun _ => False) wv w' → w'.cell? ⟨p, 0, none⟩ = some (.string S) ∧ w'.cell? ⟨p, 1, none⟩ = some (.int .i64 (i : Nat)) ∧ w'.cell? ⟨p, 2, none⟩ = some (.int .i64 0) ∧ w'.cell? ⟨p, 3, none⟩ = some (.int .i64 0)) := Lib.hid (fun w' hw => by
    have hg := (hw.same p (Array.getElem?_eq_some_iff.1 HH.out.1).1 (fun q => q)).trans HH.out.1
    exact ⟨(cell_of_row w' p 0 _ 126 (0, 0) hg).trans rfl, (cell_of_row w' p 1 _ 126 (0, 0) hg).trans rfl, (cell_of_row w' p 2 _ 126 (0, 0) hg).trans rfl, (cell_of_row w' p 3 _ 126 (0, 0) hg).trans rfl⟩)
  clear h hwv 
  go_enter Tryz.func116, Tryz.ntmps116
  go_upto_region 1 with fail
  rw [HWV.out]
  refine wp_region_held_drew (S := But (fun _ => False) wv) (by kernel_rfl) (But.refl _ _).drew (fun hHeld => ?_)
  refine tk (i := 0) (v := ?v15) rfl ?y15 ?r15
  case y15 => (intro w hSw; (try dsimp only at hSw); go_simp; (try with_reducible rfl))
  try simp only [pu]
  refine wpAnyH_ready (rs := [1]) (by kernel_rfl) (by simp) ?_
  refine AllReadyH.cons (i := 1) rfl (fun K2 hK2 => ?_) AllReadyH.nil
  go_simp
  go_at_call 178
  refine (HB9.out wv.drew ((But.refl (fun _ => False) wv).drew)).mono ?_
  rintro ev w702 ⟨rfl, bw702⟩
  try go_wp2_with fail
  obtain ⟨Kw702, fw702⟩ := st_call ((But.refl (fun _ => False) wv).drew) bw702
  have Kw702 := Lib.hid Kw702
  clear bw702 fw702
  refine hK2.out _ _ Kw702.out (fun hHeld2 => ?_)
  clear hK2 K2
  try simp only [pu]
  refine tk (i := 2) (v := ?v16) rfl ?y16 ?r16
  case y16 => (intro w hSw; (try dsimp only at hSw); go_simp; (try with_reducible rfl))
  try simp only [pu]
  refine tk (i := 3) (v := ?v17) rfl ?y17 ?r17
  case y17 => (intro w hSw; (try dsimp only at hSw); go_simp; (try with_reducible rfl))
  try simp only [pu]
  refine tk (i := 4) (v := ?v18) rfl ?y18 ?r18
  case y18 => (intro w hSw; (try dsimp only at hSw); go_simp; (try with_reducible rfl))
  try simp only [pu]
  refine tk (i := 5) (v := ?v19) rfl ?y19 ?r19
  case y19 => (intro w hSw; (try dsimp only at hSw); go_simp; (try with_reducible rfl))
  try simp only [pu]
  refine tk (i := 6) (v := ?v20) rfl ?y20 ?r20
  case y20 => (intro w hSw; (try dsimp only at hSw); go_simp; (try with_reducible rfl))
  try simp only [pu]
  refine tk (i := 7) (v := ?v21) rfl ?y21 ?r21
  case y21 => (intro w hSw; (try dsimp only at hSw); obtain ⟨z0, z1, z2, z3⟩ := KR.out w hSw; go_simp; (try with_reducible rfl))
  try simp only [pu]
  refine tk (i := 8) (v := ?v22) rfl ?y22 ?r22
  case y22 => (intro w hSw; (try dsimp only at hSw); go_simp; (try with_reducible rfl))
  try simp only [pu]
  refine tk (i := 9) (v := ?v23) rfl ?y23 ?r23
  case y23 => (intro w hSw; (try dsimp only at hSw); go_simp; (try with_reducible rfl))
  try simp only [pu]
  refine tk (i := 10) (v := ?v24) rfl ?y24 ?r24
  case y24 => (intro w hSw; (try dsimp only at hSw); go_simp; (try with_reducible rfl))
  try simp only [pu]
  refine tk (i := 11) (v := ?v25) rfl ?y25 ?r25
  case y25 => (intro w hSw; (try dsimp only at hSw); obtain ⟨z0, z1, z2, z3⟩ := KR.out w hSw; go_simp; (try with_reducible rfl))
  try simp only [pu]
  refine tk (i := 12) (v := ?v26) rfl ?y26 ?r26
  case y26 => (intro w hSw; (try dsimp only at hSw); go_simp; (try with_reducible rfl))
  try simp only [pu]
  refine tk (i := 13) (v := ?v27) rfl ?y27 ?r27
  case y27 => (intro w hSw; (try dsimp only at hSw); go_simp; (try with_reducible rfl))
  try simp only [pu]
  refine tk (i := 14) (v := ?v28) rfl ?y28 ?r28
  case y28 => (intro w hSw; (try dsimp only at hSw); go_simp; (try with_reducible rfl))
  try simp only [pu]
  refine wpAnyH_done (by kernel_rfl) ?_ _
  obtain ⟨w1, hnw1⟩ : ∃ y9 : World, w702 = y9 := ⟨_, rfl⟩
  have Bw1 : Hid (Below wv.heap.size wv w1) := Lib.hid (by rw [← hnw1]; exact But.to_below Kw702.out (Nat.le_refl _) (fun _ _ q => q))
  rw [hnw1]
  clear hnw1 hHeld hHeld2
  have hr1 := (Bw1.out.block _ (by omega)).trans HH.out.1
  have d0 : w1.cell? ⟨p, 0, none⟩ = some (.string S) := (cell_of_row w1 p 0 _ 126 (0, 0) hr1).trans rfl
  have d1 : w1.cell? ⟨p, 1, none⟩ = some (.int .i64 (i : Nat)) := (cell_of_row w1 p 1 _ 126 (0, 0) hr1).trans rfl
  have d2 : w1.cell? ⟨p, 2, none⟩ = some (.int .i64 0) := (cell_of_row w1 p 2 _ 126 (0, 0) hr1).trans rfl
  have d3 : w1.cell? ⟨p, 3, none⟩ = some (.int .i64 0) := (cell_of_row w1 p 3 _ 126 (0, 0) hr1).trans rfl
  have RF1 := Lib.hid ((Bw1.out.block _ (by omega)).trans RF.out)
  have B1 := Lib.hid (HBv.out.trans (Bw1.out.mono HBv.out.size))
  obtain ⟨vf, hvf⟩ : ∃ y : Array Value, #[.int .i64 3, .int .i64 (i : Nat)] = y := ⟨_, rfl⟩
  have Zvf : Hid (vf.size = 2) := Lib.hid (by rw [← hvf]; rfl)
  have Ivf : Hid ((Tryz.prog.info? 34).map (·.size) = some vf.size) := Lib.hid (by rw [Zvf.out]; kernel_rfl)
  have Ovf : Hid (vf.all (·.oneCell') = true) := Lib.hid (by rw [← hvf]; simp [Value.oneCell'])
  have HPL : Hid (Calls Tryz.prog 180 #[.int .i64 3, .int .i64 (i : Nat)] w1 fun ev w' => ev = .returned (.agg vf) ∧ Below w1.heap.size w1 w') := Lib.hid (by rw [← hvf]; exact placed_any i w1)
  have HVF := Lib.hid hvf
  clear hr1 hvf
  go_wp2_with fail
  refine HPL.out.mono ?_
  rintro ev w2 ⟨rfl, b2⟩
  have RF2 := Lib.hid ((b2.block _ (Array.getElem?_eq_some_iff.1 RF1.out).1).trans RF1.out)
  have B2 := Lib.hid (B1.out.trans (b2.mono B1.out.size))
  clear b2
  go_wp2_with (refine wpList_store_row rfl 34 _ _ rfl w.heap.size vf rfl rfl 34 _ RF2.out Ivf.out (by rw [Zvf.out]; rfl) Ovf.out ?_)
  refine bodyPost_ret (v := .agg vf) (results_cell_row rfl _ _ w.heap.size 34 vf (0, 0) _ rfl (setRow_heap _ _ _ _ _ _ RF2.out) Tryz.underlying34 rfl Ivf.out) rfl ⟨by rw [← HVF.out], below_setRow B2.out _ _ (Nat.le_refl _)⟩

set_option maxRecDepth 100000 in
set_option maxHeartbeats 8000000 in
theorem qend_bad (p : Nat) (S : ByteArray) (w : World) (h : QBad p w S) : Calls Tryz.prog 116 #[.pointer (some ⟨p, 0, none⟩)] w fun ev w' => (∃ k : Nat, ev = .returned (.agg #[.int .i64 3, .int .i64 (k : Nat)])) ∧ Below w.heap.size w w' := by
  obtain ⟨wv, hwv⟩ : ∃ y9 : World, (w.alloc (.cells #[.int .i64 0, .int .i64 0] 34)) = y9 := ⟨_, rfl⟩
  have HBv : Hid (Below w.heap.size w wv) := Lib.hid (by rw [← hwv]; exact ((Below.refl _ _).alloc (by simp <;> omega) _))
  have HSV : Hid (wv.heap.size = w.heap.size + 1) := Lib.hid (by rw [← hwv]; simp)
  have RF : Hid (wv.heap[w.heap.size]? = some (.cells #[.int .i64 0, .int .i64 0] 34 (0, 0))) := Lib.hid (by rw [← hwv]; exact heap_at _ _ _ (by simp <;> omega))
  have HWV := Lib.hid hwv
  have hsv := HSV.out
  have HQ := Lib.hid (h.below HBv.out)
  have hpl := h.lt
  obtain ⟨i, k, HH0, hi9⟩ := h.below HBv.out
  have HH : Hid (wv.heap[p]? = some (.cells #[.string S, .int .i64 (i : Nat), .int .i64 3, .int .i64 (k : Nat)] 126 (0, 0)) ∧ True) := Lib.hid ⟨HH0, trivial⟩
  have HB9 : Hid (∀ w', But (fun _ => False) wv w' → Calls Tryz.prog 178 #[.pointer (some ⟨p, 0, none⟩)] w' fun ev w2 => ev = .returned (.bool true) ∧ Below w'.heap.size w' w2) := Lib.hid (fun w' hw => (qbad_bad p S w' (HQ.out.below (But.to_below hw (Nat.le_refl _) (fun _ _ q => q)))).mono (fun _ _ q => ⟨q.1, by rw [← q.2]; exact Below.refl _ _⟩))
  have KR : Hid (∀ w', But (fun _ => False) wv w' → w'.cell? ⟨p, 0, none⟩ = some (.string S) ∧ w'.cell? ⟨p, 1, none⟩ = some (.int .i64 (i : Nat)) ∧ w'.cell? ⟨p, 2, none⟩ = some (.int .i64 3) ∧ w'.cell? ⟨p, 3, none⟩ = some (.int .i64 (k : Nat))) := Lib.hid (fun w' hw => by
    have hg := (hw.same p (Array.getElem?_eq_some_iff.1 HH.out.1).1 (fun q => q)).trans HH.out.1
    exact ⟨(cell_of_row w' p 0 _ 126 (0, 0) hg).trans rfl, (cell_of_row w' p 1 _ 126 (0, 0) hg).trans rfl, (cell_of_row w' p 2 _ 126 (0, 0) hg).trans rfl, (cell_of_row w' p 3 _ 126 (0, 0) hg).trans rfl⟩)
  clear h hwv HH0
  go_enter Tryz.func116, Tryz.ntmps116
  go_upto_region 1 with fail
  rw [HWV.out]
  refine wp_region_held_drew (S := But (fun _ => False) wv) (by kernel_rfl) (But.refl _ _).drew (fun hHeld => ?_)
  refine tk (i := 0) (v := ?v29) rfl ?y29 ?r29
  case y29 => (intro w hSw; (try dsimp only at hSw); go_simp; (try with_reducible rfl))
  try simp only [pu]
  refine wpAnyH_ready (rs := [1]) (by kernel_rfl) (by simp) ?_
  refine AllReadyH.cons (i := 1) rfl (fun K2 hK2 => ?_) AllReadyH.nil
  go_simp
  go_at_call 178
  refine (HB9.out wv.drew ((But.refl (fun _ => False) wv).drew)).mono ?_
  rintro ev w703 ⟨rfl, bw703⟩
  try go_wp2_with fail
  obtain ⟨Kw703, fw703⟩ := st_call ((But.refl (fun _ => False) wv).drew) bw703
  have Kw703 := Lib.hid Kw703
  clear bw703 fw703
  refine hK2.out _ _ Kw703.out (fun hHeld2 => ?_)
  clear hK2 K2
  try simp only [pu]
  refine tk (i := 2) (v := ?v30) rfl ?y30 ?r30
  case y30 => (intro w hSw; (try dsimp only at hSw); go_simp; (try with_reducible rfl))
  try simp only [pu]
  refine tk (i := 3) (v := ?v31) rfl ?y31 ?r31
  case y31 => (intro w hSw; (try dsimp only at hSw); go_simp; (try with_reducible rfl))
  try simp only [pu]
  refine ts (i := 4) rfl ?_
  try simp only [pu]
  refine ts (i := 5) rfl ?_
  try simp only [pu]
  refine ts (i := 6) rfl ?_
  try simp only [pu]
  refine ts (i := 7) rfl ?_
  try simp only [pu]
  refine ts (i := 8) rfl ?_
  try simp only [pu]
  refine ts (i := 9) rfl ?_
  try simp only [pu]
  refine ts (i := 10) rfl ?_
  try simp only [pu]
  refine ts (i := 11) rfl ?_
  try simp only [pu]
  refine ts (i := 12) rfl ?_
  try simp only [pu]
  refine ts (i := 13) rfl ?_
  try simp only [pu]
  refine tk (i := 14) (v := ?v42) rfl ?y42 ?r42
  case y42 => (intro w hSw; (try dsimp only at hSw); go_simp; (try with_reducible rfl))
  try simp only [pu]
  refine wpAnyH_done (by kernel_rfl) ?_ _
  obtain ⟨w1, hnw1⟩ : ∃ y9 : World, w703 = y9 := ⟨_, rfl⟩
  have Bw1 : Hid (Below wv.heap.size wv w1) := Lib.hid (by rw [← hnw1]; exact But.to_below Kw703.out (Nat.le_refl _) (fun _ _ q => q))
  rw [hnw1]
  clear hnw1 hHeld hHeld2
  have hr1 := (Bw1.out.block _ (by omega)).trans HH.out.1
  have d0 : w1.cell? ⟨p, 0, none⟩ = some (.string S) := (cell_of_row w1 p 0 _ 126 (0, 0) hr1).trans rfl
  have d1 : w1.cell? ⟨p, 1, none⟩ = some (.int .i64 (i : Nat)) := (cell_of_row w1 p 1 _ 126 (0, 0) hr1).trans rfl
  have d2 : w1.cell? ⟨p, 2, none⟩ = some (.int .i64 3) := (cell_of_row w1 p 2 _ 126 (0, 0) hr1).trans rfl
  have d3 : w1.cell? ⟨p, 3, none⟩ = some (.int .i64 (k : Nat)) := (cell_of_row w1 p 3 _ 126 (0, 0) hr1).trans rfl
  have RF1 := Lib.hid ((Bw1.out.block _ (by omega)).trans RF.out)
  have B1 := Lib.hid (HBv.out.trans (Bw1.out.mono HBv.out.size))
  have HRG : Hid (w1.rangeAt p 2 [.int .i64 3, .int .i64 (k : Nat)]) := Lib.hid (fun j v hj => by
    match j, hj with
    | 0, hj => simp at hj; subst hj; exact d2
    | 1, hj => simp at hj; subst hj; exact d3
    | j + 2, hj => simp at hj)
  obtain ⟨lf, hlf⟩ : ∃ y : List Value, [.int .i64 3, .int .i64 (k : Nat)] = y := ⟨_, rfl⟩
  have Ilf : Hid ((Tryz.prog.info? 34).map (·.size) = some lf.length) := Lib.hid (by rw [← hlf]; kernel_rfl)
  have Olf : Hid (lf.toArray.all (·.oneCell') = true) := Lib.hid (by rw [← hlf]; simp [Value.oneCell'])
  have Zlf : Hid (lf.toArray.size = 2) := Lib.hid (by rw [← hlf]; rfl)
  have HLF := Lib.hid hlf
  rw [hlf] at HRG
  clear hr1 hlf
  go_wp2_with (first
    | (refine wpList_load_mid rfl 34 _ rfl p 2 rfl lf _ HRG.out Tryz.underlying34 rfl Ilf.out ?_)
    | (refine wpList_store_row rfl 34 _ _ rfl w.heap.size lf.toArray rfl rfl 34 _ RF1.out (by rw [Zlf.out]; kernel_rfl) (by rw [Zlf.out]; rfl) Olf.out ?_))
  refine bodyPost_ret (v := .agg lf.toArray) (results_cell_row rfl _ _ w.heap.size 34 lf.toArray (0, 0) _ rfl (setRow_heap _ _ _ _ _ _ RF1.out) Tryz.underlying34 rfl (by rw [Zlf.out]; kernel_rfl)) rfl ⟨⟨k, by rw [← HLF.out]⟩, below_setRow B1.out _ _ (Nat.le_refl _)⟩

end Go.Proofs.YtnpblpbcchminaaGreatDoor
