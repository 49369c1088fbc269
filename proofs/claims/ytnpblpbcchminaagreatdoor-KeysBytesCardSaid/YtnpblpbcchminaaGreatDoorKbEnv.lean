import Derived.Test.YtnpblpbcchminaaGreatDoorKbLaidPlain
import Derived.Test.YtnpblpbcchminaaGreatDoorKbHashAid
/- What the listed variables give a walk, and a world that meets the condition. -/
namespace Go.Proofs.YtnpblpbcchminaaGreatDoor
open Go.ChangeShapes Go.WideShapes Go.ChangeAt Go.RowKit
set_option linter.unusedVariables false
theorem own_knob : ownKnob Tryz.prog.godebug = none := by kernel_rfl
theorem rt_row : (Tryz.prog.cutTypes.find? (·.1 == "internal/reflectlite.rtype")).map (·.2) = some 303 := by kernel_rfl
theorem one_row : ((List.range 361).filter fun t => Tryz.prog.rowNamed t [101, 114, 114, 111, 114]) = [31] := by kernel_rfl
theorem n_types : Tryz.prog.types.size = 361 := by kernel_rfl
theorem gt_err : Tryz.prog.globalNamed "errors.errorType" = some 16 := by kernel_rfl
theorem es_name : Tryz.prog.typeName? 3 330 = some "*errors.errorString" := by kernel_rfl
theorem star_es : "*" ++ "errors.errorString" = "*errors.errorString" := by decide
theorem ptr_row : ∀ u, Tryz.prog.typeName? 3 u = some "*errors.errorString" → u = 330 := fun u h =>
  typeName_ptr_named (nm := "errors.errorString") (by rw [star_es]; kernel_rfl) (by kernel_rfl) (by decide) u (by rw [star_es]; exact h)
theorem c_es : Tryz.prog.cellsOf 349 = 1 := by kernel_rfl
theorem c_str : Tryz.prog.cellsOf 9 = 1 := by kernel_rfl
def laidL : List (String × DataW Unit) := [("math/bits.deBruijn32tab", Rows.laid_math_bits_deBruijn32tab), ("math/bits.deBruijn64tab", Rows.laid_math_bits_deBruijn64tab), ("internal/strconv.uint64pow10", Rows.laid_internal_strconv_uint64pow10), ("errors.errorType", Rows.laid_errors_errorType), ("cartulary/api.ErrNil", Rows.laid_cartulary_api_ErrNil), ("cartulary/api.ErrArg", Rows.laid_cartulary_api_ErrArg), ("cartulary/api.ErrInput", Rows.laid_cartulary_api_ErrInput), ("cartulary/api.ErrLimit", Rows.laid_cartulary_api_ErrLimit), ("cartulary/api.ErrRange", Rows.laid_cartulary_api_ErrRange), ("cartulary/api.ErrGone", Rows.laid_cartulary_api_ErrGone), ("cartulary/api.ErrUnavailable", Rows.laid_cartulary_api_ErrUnavailable), ("cartulary/api.ErrDead", Rows.laid_cartulary_api_ErrDead), ("cartulary/api.ErrCorrupt", Rows.laid_cartulary_api_ErrCorrupt), ("cartulary/api.ErrProof", Rows.laid_cartulary_api_ErrProof), ("cartulary/api.ErrSpent", Rows.laid_cartulary_api_ErrSpent), ("cartulary/api.ErrSigned", Rows.laid_cartulary_api_ErrSigned), ("cartulary/api.ErrFork", Rows.laid_cartulary_api_ErrFork), ("cartulary/api.ErrOld", Rows.laid_cartulary_api_ErrOld), ("cartulary/api.ErrStopped", Rows.laid_cartulary_api_ErrStopped), ("cartulary/api.ErrScript", Rows.laid_cartulary_api_ErrScript), ("cartulary/sha.table", Rows.laid_cartulary_sha_table)]
theorem handle_of_laid {W : World} (h : laidMetH Tryz.prog laidL W) : W.cell? ⟨16, 0, none⟩ = some (.iface 303 (.agg #[.pointer (some ⟨21, 31, none⟩)])) := by
  have h' : laidMet Tryz.prog [("math/bits.deBruijn32tab", Rows.laid_math_bits_deBruijn32tab), ("math/bits.deBruijn64tab", Rows.laid_math_bits_deBruijn64tab), ("internal/strconv.uint64pow10", Rows.laid_internal_strconv_uint64pow10), ("cartulary/api.ErrNil", Rows.laid_cartulary_api_ErrNil), ("cartulary/api.ErrArg", Rows.laid_cartulary_api_ErrArg), ("cartulary/api.ErrInput", Rows.laid_cartulary_api_ErrInput), ("cartulary/api.ErrLimit", Rows.laid_cartulary_api_ErrLimit), ("cartulary/api.ErrRange", Rows.laid_cartulary_api_ErrRange), ("cartulary/api.ErrGone", Rows.laid_cartulary_api_ErrGone), ("cartulary/api.ErrUnavailable", Rows.laid_cartulary_api_ErrUnavailable), ("cartulary/api.ErrDead", Rows.laid_cartulary_api_ErrDead), ("cartulary/api.ErrCorrupt", Rows.laid_cartulary_api_ErrCorrupt), ("cartulary/api.ErrProof", Rows.laid_cartulary_api_ErrProof), ("cartulary/api.ErrSpent", Rows.laid_cartulary_api_ErrSpent), ("cartulary/api.ErrSigned", Rows.laid_cartulary_api_ErrSigned), ("cartulary/api.ErrFork", Rows.laid_cartulary_api_ErrFork), ("cartulary/api.ErrOld", Rows.laid_cartulary_api_ErrOld), ("cartulary/api.ErrStopped", Rows.laid_cartulary_api_ErrStopped), ("cartulary/api.ErrScript", Rows.laid_cartulary_api_ErrScript), ("cartulary/sha.table", Rows.laid_cartulary_sha_table)] W ∧ handlesMet Tryz.prog [("errors.errorType", Rows.laid_errors_errorType)] W := h
  obtain ⟨name, u, ty, e1, e2, e3, e4, e5⟩ := h'.2 _ (List.mem_singleton.2 rfl)
  have en : name = [101, 114, 114, 111, 114] := (Option.some.inj e1).symm
  subst en
  obtain rfl := Option.some.inj (rt_row.symm.trans e2)
  have hm : ty ∈ (List.range 361).filter fun t => Tryz.prog.rowNamed t [101, 114, 114, 111, 114] := List.mem_filter.2 ⟨List.mem_range.2 (by rw [← n_types]; exact e3), e4⟩
  rw [one_row] at hm
  obtain rfl := List.mem_singleton.1 hm
  have hh : typeHandle Tryz.prog 31 = .pointer (some ⟨21, 31, none⟩) := by kernel_rfl
  rw [hh] at e5
  simpa using World.var?_cell gt_err e5 0
theorem env_of_laid {W : World} (h : laidMetH Tryz.prog laidL W) : ∃ a, Env W.heap.size a W := by
  have hh := handle_of_laid h
  have h' : laidMet Tryz.prog [("math/bits.deBruijn32tab", Rows.laid_math_bits_deBruijn32tab), ("math/bits.deBruijn64tab", Rows.laid_math_bits_deBruijn64tab), ("internal/strconv.uint64pow10", Rows.laid_internal_strconv_uint64pow10), ("cartulary/api.ErrNil", Rows.laid_cartulary_api_ErrNil), ("cartulary/api.ErrArg", Rows.laid_cartulary_api_ErrArg), ("cartulary/api.ErrInput", Rows.laid_cartulary_api_ErrInput), ("cartulary/api.ErrLimit", Rows.laid_cartulary_api_ErrLimit), ("cartulary/api.ErrRange", Rows.laid_cartulary_api_ErrRange), ("cartulary/api.ErrGone", Rows.laid_cartulary_api_ErrGone), ("cartulary/api.ErrUnavailable", Rows.laid_cartulary_api_ErrUnavailable), ("cartulary/api.ErrDead", Rows.laid_cartulary_api_ErrDead), ("cartulary/api.ErrCorrupt", Rows.laid_cartulary_api_ErrCorrupt), ("cartulary/api.ErrProof", Rows.laid_cartulary_api_ErrProof), ("cartulary/api.ErrSpent", Rows.laid_cartulary_api_ErrSpent), ("cartulary/api.ErrSigned", Rows.laid_cartulary_api_ErrSigned), ("cartulary/api.ErrFork", Rows.laid_cartulary_api_ErrFork), ("cartulary/api.ErrOld", Rows.laid_cartulary_api_ErrOld), ("cartulary/api.ErrStopped", Rows.laid_cartulary_api_ErrStopped), ("cartulary/api.ErrScript", Rows.laid_cartulary_api_ErrScript), ("cartulary/sha.table", Rows.laid_cartulary_sha_table)] W ∧ handlesMet Tryz.prog [("errors.errorType", Rows.laid_errors_errorType)] W := h
  obtain ⟨ps, hv0, hnd, hrows⟩ := h'.1
  clear h h'
  obtain ⟨cs0, fu0, p0, q0, hc0, ht0, hv1, e0⟩ := step_data hv0 (g := 19) (ti := 22) (by kernel_rfl) (by kernel_rfl)
  have hr1 : ∀ b off, MemPlace.cell b off ∈ q0 → (∃ c t, W.heap[b]? = some (.cells c t (0, 0))) ∧ ∀ u v, W.cell? ⟨b, off, none⟩ = some (.iface u v) → Value.okWide Tryz.prog W .any 0 u v := fun b off hm => hrows b off (by rw [e0]; simp [hm])
  have hn1 : q0.Nodup := by rw [e0] at hnd; exact (List.nodup_append.1 hnd).2.1
  obtain ⟨cs1, fu1, p1, q1, hc1, ht1, hv2, e1⟩ := step_data hv1 (g := 20) (ti := 329) (by kernel_rfl) (by kernel_rfl)
  have hr2 : ∀ b off, MemPlace.cell b off ∈ q1 → (∃ c t, W.heap[b]? = some (.cells c t (0, 0))) ∧ ∀ u v, W.cell? ⟨b, off, none⟩ = some (.iface u v) → Value.okWide Tryz.prog W .any 0 u v := fun b off hm => hr1 b off (by rw [e1]; simp [hm])
  have hn2 : q1.Nodup := by rw [e1] at hn1; exact (List.nodup_append.1 hn1).2.1
  have hD1 : W.cell? ⟨20, 0, none⟩ = some (.int .u8 0) := by
    have := table_cells (l := ([0, 1, 56, 2, 57, 49, 28, 3, 61, 58, 42, 50, 38, 29, 17, 4, 62, 47, 59, 36, 45, 43, 51, 22, 53, 39, 33, 30, 24, 18, 12, 5, 63, 55, 48, 27, 60, 41, 37, 16, 46, 35, 44, 21, 52, 32, 23, 11, 54, 26, 40, 15, 34, 20, 31, 10, 25, 14, 19, 9, 13, 8, 7, 6] : List Int)) Tryz.underlying329 Tryz.underlying5 (by kernel_rfl) (by kernel_rfl) ht1 0 0 rfl
    have hcell := World.var?_cell (show Tryz.prog.globalNamed "math/bits.deBruijn64tab" = some 20 by kernel_rfl) hc1 0
    rw [hcell, ← Array.getElem?_toList]; exact this
  obtain ⟨cs2, fu2, p2, q2, hc2, ht2, hv3, e2⟩ := step_data hv2 (g := 18) (ti := 324) (by kernel_rfl) (by kernel_rfl)
  have hr3 : ∀ b off, MemPlace.cell b off ∈ q2 → (∃ c t, W.heap[b]? = some (.cells c t (0, 0))) ∧ ∀ u v, W.cell? ⟨b, off, none⟩ = some (.iface u v) → Value.okWide Tryz.prog W .any 0 u v := fun b off hm => hr2 b off (by rw [e2]; simp [hm])
  have hn3 : q2.Nodup := by rw [e2] at hn2; exact (List.nodup_append.1 hn2).2.1
  obtain ⟨a3, q3, c3, l3, r3, hv4, e3⟩ := step_sent hv3 hr3 (g := 2) (by kernel_rfl) (by kernel_rfl) Tryz.underlying31 ptr_row Tryz.underlying330 Tryz.underlying349 rfl rfl Tryz.underlying9 c_es c_str
  have hr4 : ∀ b off, MemPlace.cell b off ∈ q3 → (∃ c t, W.heap[b]? = some (.cells c t (0, 0))) ∧ ∀ u v, W.cell? ⟨b, off, none⟩ = some (.iface u v) → Value.okWide Tryz.prog W .any 0 u v := fun b off hm => hr3 b off (by rw [e3]; simp [hm])
  have hn4 : q3.Nodup := by rw [e3] at hn3; exact (List.nodup_cons.1 (List.nodup_cons.1 hn3).2).2
  have hx3 : MemPlace.cell a3.block a3.off ∉ q3 := by rw [e3] at hn3; exact (List.nodup_cons.1 (List.nodup_cons.1 hn3).2).1
  obtain ⟨a4, q4, c4, l4, r4, hv5, e4⟩ := step_sent hv4 hr4 (g := 0) (by kernel_rfl) (by kernel_rfl) Tryz.underlying31 ptr_row Tryz.underlying330 Tryz.underlying349 rfl rfl Tryz.underlying9 c_es c_str
  have hr5 : ∀ b off, MemPlace.cell b off ∈ q4 → (∃ c t, W.heap[b]? = some (.cells c t (0, 0))) ∧ ∀ u v, W.cell? ⟨b, off, none⟩ = some (.iface u v) → Value.okWide Tryz.prog W .any 0 u v := fun b off hm => hr4 b off (by rw [e4]; simp [hm])
  have hn5 : q4.Nodup := by rw [e4] at hn4; exact (List.nodup_cons.1 (List.nodup_cons.1 hn4).2).2
  have hx4 : MemPlace.cell a4.block a4.off ∉ q4 := by rw [e4] at hn4; exact (List.nodup_cons.1 (List.nodup_cons.1 hn4).2).1
  obtain ⟨a5, q5, c5, l5, r5, hv6, e5⟩ := step_sent hv5 hr5 (g := 4) (by kernel_rfl) (by kernel_rfl) Tryz.underlying31 ptr_row Tryz.underlying330 Tryz.underlying349 rfl rfl Tryz.underlying9 c_es c_str
  have hr6 : ∀ b off, MemPlace.cell b off ∈ q5 → (∃ c t, W.heap[b]? = some (.cells c t (0, 0))) ∧ ∀ u v, W.cell? ⟨b, off, none⟩ = some (.iface u v) → Value.okWide Tryz.prog W .any 0 u v := fun b off hm => hr5 b off (by rw [e5]; simp [hm])
  have hn6 : q5.Nodup := by rw [e5] at hn5; exact (List.nodup_cons.1 (List.nodup_cons.1 hn5).2).2
  have hx5 : MemPlace.cell a5.block a5.off ∉ q5 := by rw [e5] at hn5; exact (List.nodup_cons.1 (List.nodup_cons.1 hn5).2).1
  obtain ⟨a6, q6, c6, l6, r6, hv7, e6⟩ := step_sent hv6 hr6 (g := 6) (by kernel_rfl) (by kernel_rfl) Tryz.underlying31 ptr_row Tryz.underlying330 Tryz.underlying349 rfl rfl Tryz.underlying9 c_es c_str
  have hr7 : ∀ b off, MemPlace.cell b off ∈ q6 → (∃ c t, W.heap[b]? = some (.cells c t (0, 0))) ∧ ∀ u v, W.cell? ⟨b, off, none⟩ = some (.iface u v) → Value.okWide Tryz.prog W .any 0 u v := fun b off hm => hr6 b off (by rw [e6]; simp [hm])
  have hn7 : q6.Nodup := by rw [e6] at hn6; exact (List.nodup_cons.1 (List.nodup_cons.1 hn6).2).2
  have hx6 : MemPlace.cell a6.block a6.off ∉ q6 := by rw [e6] at hn6; exact (List.nodup_cons.1 (List.nodup_cons.1 hn6).2).1
  obtain ⟨a7, q7, c7, l7, r7, hv8, e7⟩ := step_sent hv7 hr7 (g := 7) (by kernel_rfl) (by kernel_rfl) Tryz.underlying31 ptr_row Tryz.underlying330 Tryz.underlying349 rfl rfl Tryz.underlying9 c_es c_str
  have hr8 : ∀ b off, MemPlace.cell b off ∈ q7 → (∃ c t, W.heap[b]? = some (.cells c t (0, 0))) ∧ ∀ u v, W.cell? ⟨b, off, none⟩ = some (.iface u v) → Value.okWide Tryz.prog W .any 0 u v := fun b off hm => hr7 b off (by rw [e7]; simp [hm])
  have hn8 : q7.Nodup := by rw [e7] at hn7; exact (List.nodup_cons.1 (List.nodup_cons.1 hn7).2).2
  have hx7 : MemPlace.cell a7.block a7.off ∉ q7 := by rw [e7] at hn7; exact (List.nodup_cons.1 (List.nodup_cons.1 hn7).2).1
  obtain ⟨a8, q8, c8, l8, r8, hv9, e8⟩ := step_sent hv8 hr8 (g := 8) (by kernel_rfl) (by kernel_rfl) Tryz.underlying31 ptr_row Tryz.underlying330 Tryz.underlying349 rfl rfl Tryz.underlying9 c_es c_str
  have hr9 : ∀ b off, MemPlace.cell b off ∈ q8 → (∃ c t, W.heap[b]? = some (.cells c t (0, 0))) ∧ ∀ u v, W.cell? ⟨b, off, none⟩ = some (.iface u v) → Value.okWide Tryz.prog W .any 0 u v := fun b off hm => hr8 b off (by rw [e8]; simp [hm])
  have hn9 : q8.Nodup := by rw [e8] at hn8; exact (List.nodup_cons.1 (List.nodup_cons.1 hn8).2).2
  have hx8 : MemPlace.cell a8.block a8.off ∉ q8 := by rw [e8] at hn8; exact (List.nodup_cons.1 (List.nodup_cons.1 hn8).2).1
  obtain ⟨a9, q9, c9, l9, r9, hv10, e9⟩ := step_sent hv9 hr9 (g := 9) (by kernel_rfl) (by kernel_rfl) Tryz.underlying31 ptr_row Tryz.underlying330 Tryz.underlying349 rfl rfl Tryz.underlying9 c_es c_str
  have hr10 : ∀ b off, MemPlace.cell b off ∈ q9 → (∃ c t, W.heap[b]? = some (.cells c t (0, 0))) ∧ ∀ u v, W.cell? ⟨b, off, none⟩ = some (.iface u v) → Value.okWide Tryz.prog W .any 0 u v := fun b off hm => hr9 b off (by rw [e9]; simp [hm])
  have hn10 : q9.Nodup := by rw [e9] at hn9; exact (List.nodup_cons.1 (List.nodup_cons.1 hn9).2).2
  have hx9 : MemPlace.cell a9.block a9.off ∉ q9 := by rw [e9] at hn9; exact (List.nodup_cons.1 (List.nodup_cons.1 hn9).2).1
  obtain ⟨a10, q10, c10, l10, r10, hv11, e10⟩ := step_sent hv10 hr10 (g := 10) (by kernel_rfl) (by kernel_rfl) Tryz.underlying31 ptr_row Tryz.underlying330 Tryz.underlying349 rfl rfl Tryz.underlying9 c_es c_str
  have hr11 : ∀ b off, MemPlace.cell b off ∈ q10 → (∃ c t, W.heap[b]? = some (.cells c t (0, 0))) ∧ ∀ u v, W.cell? ⟨b, off, none⟩ = some (.iface u v) → Value.okWide Tryz.prog W .any 0 u v := fun b off hm => hr10 b off (by rw [e10]; simp [hm])
  have hn11 : q10.Nodup := by rw [e10] at hn10; exact (List.nodup_cons.1 (List.nodup_cons.1 hn10).2).2
  have hx10 : MemPlace.cell a10.block a10.off ∉ q10 := by rw [e10] at hn10; exact (List.nodup_cons.1 (List.nodup_cons.1 hn10).2).1
  obtain ⟨a11, q11, c11, l11, r11, hv12, e11⟩ := step_sent hv11 hr11 (g := 11) (by kernel_rfl) (by kernel_rfl) Tryz.underlying31 ptr_row Tryz.underlying330 Tryz.underlying349 rfl rfl Tryz.underlying9 c_es c_str
  have hr12 : ∀ b off, MemPlace.cell b off ∈ q11 → (∃ c t, W.heap[b]? = some (.cells c t (0, 0))) ∧ ∀ u v, W.cell? ⟨b, off, none⟩ = some (.iface u v) → Value.okWide Tryz.prog W .any 0 u v := fun b off hm => hr11 b off (by rw [e11]; simp [hm])
  have hn12 : q11.Nodup := by rw [e11] at hn11; exact (List.nodup_cons.1 (List.nodup_cons.1 hn11).2).2
  have hx11 : MemPlace.cell a11.block a11.off ∉ q11 := by rw [e11] at hn11; exact (List.nodup_cons.1 (List.nodup_cons.1 hn11).2).1
  obtain ⟨a12, q12, c12, l12, r12, hv13, e12⟩ := step_sent hv12 hr12 (g := 5) (by kernel_rfl) (by kernel_rfl) Tryz.underlying31 ptr_row Tryz.underlying330 Tryz.underlying349 rfl rfl Tryz.underlying9 c_es c_str
  have hr13 : ∀ b off, MemPlace.cell b off ∈ q12 → (∃ c t, W.heap[b]? = some (.cells c t (0, 0))) ∧ ∀ u v, W.cell? ⟨b, off, none⟩ = some (.iface u v) → Value.okWide Tryz.prog W .any 0 u v := fun b off hm => hr12 b off (by rw [e12]; simp [hm])
  have hn13 : q12.Nodup := by rw [e12] at hn12; exact (List.nodup_cons.1 (List.nodup_cons.1 hn12).2).2
  have hx12 : MemPlace.cell a12.block a12.off ∉ q12 := by rw [e12] at hn12; exact (List.nodup_cons.1 (List.nodup_cons.1 hn12).2).1
  obtain ⟨a13, q13, c13, l13, r13, hv14, e13⟩ := step_sent hv13 hr13 (g := 3) (by kernel_rfl) (by kernel_rfl) Tryz.underlying31 ptr_row Tryz.underlying330 Tryz.underlying349 rfl rfl Tryz.underlying9 c_es c_str
  have hr14 : ∀ b off, MemPlace.cell b off ∈ q13 → (∃ c t, W.heap[b]? = some (.cells c t (0, 0))) ∧ ∀ u v, W.cell? ⟨b, off, none⟩ = some (.iface u v) → Value.okWide Tryz.prog W .any 0 u v := fun b off hm => hr13 b off (by rw [e13]; simp [hm])
  have hn14 : q13.Nodup := by rw [e13] at hn13; exact (List.nodup_cons.1 (List.nodup_cons.1 hn13).2).2
  have hx13 : MemPlace.cell a13.block a13.off ∉ q13 := by rw [e13] at hn13; exact (List.nodup_cons.1 (List.nodup_cons.1 hn13).2).1
  obtain ⟨a14, q14, c14, l14, r14, hv15, e14⟩ := step_sent hv14 hr14 (g := 1) (by kernel_rfl) (by kernel_rfl) Tryz.underlying31 ptr_row Tryz.underlying330 Tryz.underlying349 rfl rfl Tryz.underlying9 c_es c_str
  have hr15 : ∀ b off, MemPlace.cell b off ∈ q14 → (∃ c t, W.heap[b]? = some (.cells c t (0, 0))) ∧ ∀ u v, W.cell? ⟨b, off, none⟩ = some (.iface u v) → Value.okWide Tryz.prog W .any 0 u v := fun b off hm => hr14 b off (by rw [e14]; simp [hm])
  have hn15 : q14.Nodup := by rw [e14] at hn14; exact (List.nodup_cons.1 (List.nodup_cons.1 hn14).2).2
  have hx14 : MemPlace.cell a14.block a14.off ∉ q14 := by rw [e14] at hn14; exact (List.nodup_cons.1 (List.nodup_cons.1 hn14).2).1
  obtain ⟨a15, q15, c15, l15, r15, hv16, e15⟩ := step_sent hv15 hr15 (g := 12) (by kernel_rfl) (by kernel_rfl) Tryz.underlying31 ptr_row Tryz.underlying330 Tryz.underlying349 rfl rfl Tryz.underlying9 c_es c_str
  have hr16 : ∀ b off, MemPlace.cell b off ∈ q15 → (∃ c t, W.heap[b]? = some (.cells c t (0, 0))) ∧ ∀ u v, W.cell? ⟨b, off, none⟩ = some (.iface u v) → Value.okWide Tryz.prog W .any 0 u v := fun b off hm => hr15 b off (by rw [e15]; simp [hm])
  have hn16 : q15.Nodup := by rw [e15] at hn15; exact (List.nodup_cons.1 (List.nodup_cons.1 hn15).2).2
  have hx15 : MemPlace.cell a15.block a15.off ∉ q15 := by rw [e15] at hn15; exact (List.nodup_cons.1 (List.nodup_cons.1 hn15).2).1
  obtain ⟨a16, q16, c16, l16, r16, hv17, e16⟩ := step_sent hv16 hr16 (g := 13) (by kernel_rfl) (by kernel_rfl) Tryz.underlying31 ptr_row Tryz.underlying330 Tryz.underlying349 rfl rfl Tryz.underlying9 c_es c_str
  have hr17 : ∀ b off, MemPlace.cell b off ∈ q16 → (∃ c t, W.heap[b]? = some (.cells c t (0, 0))) ∧ ∀ u v, W.cell? ⟨b, off, none⟩ = some (.iface u v) → Value.okWide Tryz.prog W .any 0 u v := fun b off hm => hr16 b off (by rw [e16]; simp [hm])
  have hn17 : q16.Nodup := by rw [e16] at hn16; exact (List.nodup_cons.1 (List.nodup_cons.1 hn16).2).2
  have hx16 : MemPlace.cell a16.block a16.off ∉ q16 := by rw [e16] at hn16; exact (List.nodup_cons.1 (List.nodup_cons.1 hn16).2).1
  obtain ⟨a17, q17, c17, l17, r17, hv18, e17⟩ := step_sent hv17 hr17 (g := 14) (by kernel_rfl) (by kernel_rfl) Tryz.underlying31 ptr_row Tryz.underlying330 Tryz.underlying349 rfl rfl Tryz.underlying9 c_es c_str
  have hr18 : ∀ b off, MemPlace.cell b off ∈ q17 → (∃ c t, W.heap[b]? = some (.cells c t (0, 0))) ∧ ∀ u v, W.cell? ⟨b, off, none⟩ = some (.iface u v) → Value.okWide Tryz.prog W .any 0 u v := fun b off hm => hr17 b off (by rw [e17]; simp [hm])
  have hn18 : q17.Nodup := by rw [e17] at hn17; exact (List.nodup_cons.1 (List.nodup_cons.1 hn17).2).2
  have hx17 : MemPlace.cell a17.block a17.off ∉ q17 := by rw [e17] at hn17; exact (List.nodup_cons.1 (List.nodup_cons.1 hn17).2).1
  obtain ⟨a18, q18, c18, l18, r18, hv19, e18⟩ := step_sent hv18 hr18 (g := 15) (by kernel_rfl) (by kernel_rfl) Tryz.underlying31 ptr_row Tryz.underlying330 Tryz.underlying349 rfl rfl Tryz.underlying9 c_es c_str
  have hr19 : ∀ b off, MemPlace.cell b off ∈ q18 → (∃ c t, W.heap[b]? = some (.cells c t (0, 0))) ∧ ∀ u v, W.cell? ⟨b, off, none⟩ = some (.iface u v) → Value.okWide Tryz.prog W .any 0 u v := fun b off hm => hr18 b off (by rw [e18]; simp [hm])
  have hn19 : q18.Nodup := by rw [e18] at hn18; exact (List.nodup_cons.1 (List.nodup_cons.1 hn18).2).2
  have hx18 : MemPlace.cell a18.block a18.off ∉ q18 := by rw [e18] at hn18; exact (List.nodup_cons.1 (List.nodup_cons.1 hn18).2).1
  obtain ⟨cs19, fu19, p19, q19, hc19, ht19, hv20, e19⟩ := step_data hv19 (g := 17) (ti := 270) (by kernel_rfl) (by kernel_rfl)
  have hr20 : ∀ b off, MemPlace.cell b off ∈ q19 → (∃ c t, W.heap[b]? = some (.cells c t (0, 0))) ∧ ∀ u v, W.cell? ⟨b, off, none⟩ = some (.iface u v) → Value.okWide Tryz.prog W .any 0 u v := fun b off hm => hr19 b off (by rw [e19]; simp [hm])
  have hn20 : q19.Nodup := by rw [e19] at hn19; exact (List.nodup_append.1 hn19).2.1
  have hT : KTab 17 W := fun j hj => by
    have hx : shaK[j]? = some (shaK.getD j 0) := by rw [List.getD_eq_getElem?_getD, List.getElem?_eq_getElem (show j < shaK.length from hj)]; rfl
    have := table_cells (l := shaK) Tryz.underlying270 Tryz.underlying269 (by kernel_rfl) (by kernel_rfl) ht19 j _ hx
    have hcell := World.var?_cell (show Tryz.prog.globalNamed "cartulary/sha.table" = some 17 by kernel_rfl) hc19 j
    rw [hcell, ← Array.getElem?_toList]; exact this
  have hlast : True := trivial
  have m3_4 : MemPlace.cell a4.block a4.off ∈ q3 := by rw [e4]; simp
  have m4_5 : MemPlace.cell a5.block a5.off ∈ q4 := by rw [e5]; simp
  have m5_6 : MemPlace.cell a6.block a6.off ∈ q5 := by rw [e6]; simp
  have m6_7 : MemPlace.cell a7.block a7.off ∈ q6 := by rw [e7]; simp
  have m7_8 : MemPlace.cell a8.block a8.off ∈ q7 := by rw [e8]; simp
  have m8_9 : MemPlace.cell a9.block a9.off ∈ q8 := by rw [e9]; simp
  have m9_10 : MemPlace.cell a10.block a10.off ∈ q9 := by rw [e10]; simp
  have m10_11 : MemPlace.cell a11.block a11.off ∈ q10 := by rw [e11]; simp
  have m11_12 : MemPlace.cell a12.block a12.off ∈ q11 := by rw [e12]; simp
  have m12_13 : MemPlace.cell a13.block a13.off ∈ q12 := by rw [e13]; simp
  have m13_14 : MemPlace.cell a14.block a14.off ∈ q13 := by rw [e14]; simp
  have m14_15 : MemPlace.cell a15.block a15.off ∈ q14 := by rw [e15]; simp
  have m15_16 : MemPlace.cell a16.block a16.off ∈ q15 := by rw [e16]; simp
  have m16_17 : MemPlace.cell a17.block a17.off ∈ q16 := by rw [e17]; simp
  have m17_18 : MemPlace.cell a18.block a18.off ∈ q17 := by rw [e18]; simp
  have m16_18 : MemPlace.cell a18.block a18.off ∈ q16 := by rw [e17]; simp [m17_18]
  have m15_17 : MemPlace.cell a17.block a17.off ∈ q15 := by rw [e16]; simp [m16_17]
  have m15_18 : MemPlace.cell a18.block a18.off ∈ q15 := by rw [e16]; simp [m16_18]
  have m14_16 : MemPlace.cell a16.block a16.off ∈ q14 := by rw [e15]; simp [m15_16]
  have m14_17 : MemPlace.cell a17.block a17.off ∈ q14 := by rw [e15]; simp [m15_17]
  have m14_18 : MemPlace.cell a18.block a18.off ∈ q14 := by rw [e15]; simp [m15_18]
  have m13_15 : MemPlace.cell a15.block a15.off ∈ q13 := by rw [e14]; simp [m14_15]
  have m13_16 : MemPlace.cell a16.block a16.off ∈ q13 := by rw [e14]; simp [m14_16]
  have m13_17 : MemPlace.cell a17.block a17.off ∈ q13 := by rw [e14]; simp [m14_17]
  have m13_18 : MemPlace.cell a18.block a18.off ∈ q13 := by rw [e14]; simp [m14_18]
  have m12_14 : MemPlace.cell a14.block a14.off ∈ q12 := by rw [e13]; simp [m13_14]
  have m12_15 : MemPlace.cell a15.block a15.off ∈ q12 := by rw [e13]; simp [m13_15]
  have m12_16 : MemPlace.cell a16.block a16.off ∈ q12 := by rw [e13]; simp [m13_16]
  have m12_17 : MemPlace.cell a17.block a17.off ∈ q12 := by rw [e13]; simp [m13_17]
  have m12_18 : MemPlace.cell a18.block a18.off ∈ q12 := by rw [e13]; simp [m13_18]
  have m11_13 : MemPlace.cell a13.block a13.off ∈ q11 := by rw [e12]; simp [m12_13]
  have m11_14 : MemPlace.cell a14.block a14.off ∈ q11 := by rw [e12]; simp [m12_14]
  have m11_15 : MemPlace.cell a15.block a15.off ∈ q11 := by rw [e12]; simp [m12_15]
  have m11_16 : MemPlace.cell a16.block a16.off ∈ q11 := by rw [e12]; simp [m12_16]
  have m11_17 : MemPlace.cell a17.block a17.off ∈ q11 := by rw [e12]; simp [m12_17]
  have m11_18 : MemPlace.cell a18.block a18.off ∈ q11 := by rw [e12]; simp [m12_18]
  have m10_12 : MemPlace.cell a12.block a12.off ∈ q10 := by rw [e11]; simp [m11_12]
  have m10_13 : MemPlace.cell a13.block a13.off ∈ q10 := by rw [e11]; simp [m11_13]
  have m10_14 : MemPlace.cell a14.block a14.off ∈ q10 := by rw [e11]; simp [m11_14]
  have m10_15 : MemPlace.cell a15.block a15.off ∈ q10 := by rw [e11]; simp [m11_15]
  have m10_16 : MemPlace.cell a16.block a16.off ∈ q10 := by rw [e11]; simp [m11_16]
  have m10_17 : MemPlace.cell a17.block a17.off ∈ q10 := by rw [e11]; simp [m11_17]
  have m10_18 : MemPlace.cell a18.block a18.off ∈ q10 := by rw [e11]; simp [m11_18]
  have m9_11 : MemPlace.cell a11.block a11.off ∈ q9 := by rw [e10]; simp [m10_11]
  have m9_12 : MemPlace.cell a12.block a12.off ∈ q9 := by rw [e10]; simp [m10_12]
  have m9_13 : MemPlace.cell a13.block a13.off ∈ q9 := by rw [e10]; simp [m10_13]
  have m9_14 : MemPlace.cell a14.block a14.off ∈ q9 := by rw [e10]; simp [m10_14]
  have m9_15 : MemPlace.cell a15.block a15.off ∈ q9 := by rw [e10]; simp [m10_15]
  have m9_16 : MemPlace.cell a16.block a16.off ∈ q9 := by rw [e10]; simp [m10_16]
  have m9_17 : MemPlace.cell a17.block a17.off ∈ q9 := by rw [e10]; simp [m10_17]
  have m9_18 : MemPlace.cell a18.block a18.off ∈ q9 := by rw [e10]; simp [m10_18]
  have m8_10 : MemPlace.cell a10.block a10.off ∈ q8 := by rw [e9]; simp [m9_10]
  have m8_11 : MemPlace.cell a11.block a11.off ∈ q8 := by rw [e9]; simp [m9_11]
  have m8_12 : MemPlace.cell a12.block a12.off ∈ q8 := by rw [e9]; simp [m9_12]
  have m8_13 : MemPlace.cell a13.block a13.off ∈ q8 := by rw [e9]; simp [m9_13]
  have m8_14 : MemPlace.cell a14.block a14.off ∈ q8 := by rw [e9]; simp [m9_14]
  have m8_15 : MemPlace.cell a15.block a15.off ∈ q8 := by rw [e9]; simp [m9_15]
  have m8_16 : MemPlace.cell a16.block a16.off ∈ q8 := by rw [e9]; simp [m9_16]
  have m8_17 : MemPlace.cell a17.block a17.off ∈ q8 := by rw [e9]; simp [m9_17]
  have m8_18 : MemPlace.cell a18.block a18.off ∈ q8 := by rw [e9]; simp [m9_18]
  have m7_9 : MemPlace.cell a9.block a9.off ∈ q7 := by rw [e8]; simp [m8_9]
  have m7_10 : MemPlace.cell a10.block a10.off ∈ q7 := by rw [e8]; simp [m8_10]
  have m7_11 : MemPlace.cell a11.block a11.off ∈ q7 := by rw [e8]; simp [m8_11]
  have m7_12 : MemPlace.cell a12.block a12.off ∈ q7 := by rw [e8]; simp [m8_12]
  have m7_13 : MemPlace.cell a13.block a13.off ∈ q7 := by rw [e8]; simp [m8_13]
  have m7_14 : MemPlace.cell a14.block a14.off ∈ q7 := by rw [e8]; simp [m8_14]
  have m7_15 : MemPlace.cell a15.block a15.off ∈ q7 := by rw [e8]; simp [m8_15]
  have m7_16 : MemPlace.cell a16.block a16.off ∈ q7 := by rw [e8]; simp [m8_16]
  have m7_17 : MemPlace.cell a17.block a17.off ∈ q7 := by rw [e8]; simp [m8_17]
  have m7_18 : MemPlace.cell a18.block a18.off ∈ q7 := by rw [e8]; simp [m8_18]
  have m6_8 : MemPlace.cell a8.block a8.off ∈ q6 := by rw [e7]; simp [m7_8]
  have m6_9 : MemPlace.cell a9.block a9.off ∈ q6 := by rw [e7]; simp [m7_9]
  have m6_10 : MemPlace.cell a10.block a10.off ∈ q6 := by rw [e7]; simp [m7_10]
  have m6_11 : MemPlace.cell a11.block a11.off ∈ q6 := by rw [e7]; simp [m7_11]
  have m6_12 : MemPlace.cell a12.block a12.off ∈ q6 := by rw [e7]; simp [m7_12]
  have m6_13 : MemPlace.cell a13.block a13.off ∈ q6 := by rw [e7]; simp [m7_13]
  have m6_14 : MemPlace.cell a14.block a14.off ∈ q6 := by rw [e7]; simp [m7_14]
  have m6_15 : MemPlace.cell a15.block a15.off ∈ q6 := by rw [e7]; simp [m7_15]
  have m6_16 : MemPlace.cell a16.block a16.off ∈ q6 := by rw [e7]; simp [m7_16]
  have m6_17 : MemPlace.cell a17.block a17.off ∈ q6 := by rw [e7]; simp [m7_17]
  have m6_18 : MemPlace.cell a18.block a18.off ∈ q6 := by rw [e7]; simp [m7_18]
  have m5_7 : MemPlace.cell a7.block a7.off ∈ q5 := by rw [e6]; simp [m6_7]
  have m5_8 : MemPlace.cell a8.block a8.off ∈ q5 := by rw [e6]; simp [m6_8]
  have m5_9 : MemPlace.cell a9.block a9.off ∈ q5 := by rw [e6]; simp [m6_9]
  have m5_10 : MemPlace.cell a10.block a10.off ∈ q5 := by rw [e6]; simp [m6_10]
  have m5_11 : MemPlace.cell a11.block a11.off ∈ q5 := by rw [e6]; simp [m6_11]
  have m5_12 : MemPlace.cell a12.block a12.off ∈ q5 := by rw [e6]; simp [m6_12]
  have m5_13 : MemPlace.cell a13.block a13.off ∈ q5 := by rw [e6]; simp [m6_13]
  have m5_14 : MemPlace.cell a14.block a14.off ∈ q5 := by rw [e6]; simp [m6_14]
  have m5_15 : MemPlace.cell a15.block a15.off ∈ q5 := by rw [e6]; simp [m6_15]
  have m5_16 : MemPlace.cell a16.block a16.off ∈ q5 := by rw [e6]; simp [m6_16]
  have m5_17 : MemPlace.cell a17.block a17.off ∈ q5 := by rw [e6]; simp [m6_17]
  have m5_18 : MemPlace.cell a18.block a18.off ∈ q5 := by rw [e6]; simp [m6_18]
  have m4_6 : MemPlace.cell a6.block a6.off ∈ q4 := by rw [e5]; simp [m5_6]
  have m4_7 : MemPlace.cell a7.block a7.off ∈ q4 := by rw [e5]; simp [m5_7]
  have m4_8 : MemPlace.cell a8.block a8.off ∈ q4 := by rw [e5]; simp [m5_8]
  have m4_9 : MemPlace.cell a9.block a9.off ∈ q4 := by rw [e5]; simp [m5_9]
  have m4_10 : MemPlace.cell a10.block a10.off ∈ q4 := by rw [e5]; simp [m5_10]
  have m4_11 : MemPlace.cell a11.block a11.off ∈ q4 := by rw [e5]; simp [m5_11]
  have m4_12 : MemPlace.cell a12.block a12.off ∈ q4 := by rw [e5]; simp [m5_12]
  have m4_13 : MemPlace.cell a13.block a13.off ∈ q4 := by rw [e5]; simp [m5_13]
  have m4_14 : MemPlace.cell a14.block a14.off ∈ q4 := by rw [e5]; simp [m5_14]
  have m4_15 : MemPlace.cell a15.block a15.off ∈ q4 := by rw [e5]; simp [m5_15]
  have m4_16 : MemPlace.cell a16.block a16.off ∈ q4 := by rw [e5]; simp [m5_16]
  have m4_17 : MemPlace.cell a17.block a17.off ∈ q4 := by rw [e5]; simp [m5_17]
  have m4_18 : MemPlace.cell a18.block a18.off ∈ q4 := by rw [e5]; simp [m5_18]
  have m3_5 : MemPlace.cell a5.block a5.off ∈ q3 := by rw [e4]; simp [m4_5]
  have m3_6 : MemPlace.cell a6.block a6.off ∈ q3 := by rw [e4]; simp [m4_6]
  have m3_7 : MemPlace.cell a7.block a7.off ∈ q3 := by rw [e4]; simp [m4_7]
  have m3_8 : MemPlace.cell a8.block a8.off ∈ q3 := by rw [e4]; simp [m4_8]
  have m3_9 : MemPlace.cell a9.block a9.off ∈ q3 := by rw [e4]; simp [m4_9]
  have m3_10 : MemPlace.cell a10.block a10.off ∈ q3 := by rw [e4]; simp [m4_10]
  have m3_11 : MemPlace.cell a11.block a11.off ∈ q3 := by rw [e4]; simp [m4_11]
  have m3_12 : MemPlace.cell a12.block a12.off ∈ q3 := by rw [e4]; simp [m4_12]
  have m3_13 : MemPlace.cell a13.block a13.off ∈ q3 := by rw [e4]; simp [m4_13]
  have m3_14 : MemPlace.cell a14.block a14.off ∈ q3 := by rw [e4]; simp [m4_14]
  have m3_15 : MemPlace.cell a15.block a15.off ∈ q3 := by rw [e4]; simp [m4_15]
  have m3_16 : MemPlace.cell a16.block a16.off ∈ q3 := by rw [e4]; simp [m4_16]
  have m3_17 : MemPlace.cell a17.block a17.off ∈ q3 := by rw [e4]; simp [m4_17]
  have m3_18 : MemPlace.cell a18.block a18.off ∈ q3 := by rw [e4]; simp [m4_18]
  have hnod : [a3, a4, a5, a6, a7, a8, a9, a10, a11, a12, a13, a14, a15, a16, a17, a18].Nodup := by
    refine List.nodup_cons.2 ⟨fun hm => ?_, List.nodup_cons.2 ⟨fun hm => ?_, List.nodup_cons.2 ⟨fun hm => ?_, List.nodup_cons.2 ⟨fun hm => ?_, List.nodup_cons.2 ⟨fun hm => ?_, List.nodup_cons.2 ⟨fun hm => ?_, List.nodup_cons.2 ⟨fun hm => ?_, List.nodup_cons.2 ⟨fun hm => ?_, List.nodup_cons.2 ⟨fun hm => ?_, List.nodup_cons.2 ⟨fun hm => ?_, List.nodup_cons.2 ⟨fun hm => ?_, List.nodup_cons.2 ⟨fun hm => ?_, List.nodup_cons.2 ⟨fun hm => ?_, List.nodup_cons.2 ⟨fun hm => ?_, List.nodup_cons.2 ⟨fun hm => ?_, List.nodup_cons.2 ⟨fun hm => ?_, List.nodup_nil⟩⟩⟩⟩⟩⟩⟩⟩⟩⟩⟩⟩⟩⟩⟩⟩
    · simp only [List.mem_cons, List.not_mem_nil, or_false] at hm
      rcases hm with e | e | e | e | e | e | e | e | e | e | e | e | e | e | e
      · exact hx3 (by rw [e]; exact m3_4)
      · exact hx3 (by rw [e]; exact m3_5)
      · exact hx3 (by rw [e]; exact m3_6)
      · exact hx3 (by rw [e]; exact m3_7)
      · exact hx3 (by rw [e]; exact m3_8)
      · exact hx3 (by rw [e]; exact m3_9)
      · exact hx3 (by rw [e]; exact m3_10)
      · exact hx3 (by rw [e]; exact m3_11)
      · exact hx3 (by rw [e]; exact m3_12)
      · exact hx3 (by rw [e]; exact m3_13)
      · exact hx3 (by rw [e]; exact m3_14)
      · exact hx3 (by rw [e]; exact m3_15)
      · exact hx3 (by rw [e]; exact m3_16)
      · exact hx3 (by rw [e]; exact m3_17)
      · exact hx3 (by rw [e]; exact m3_18)
    · simp only [List.mem_cons, List.not_mem_nil, or_false] at hm
      rcases hm with e | e | e | e | e | e | e | e | e | e | e | e | e | e
      · exact hx4 (by rw [e]; exact m4_5)
      · exact hx4 (by rw [e]; exact m4_6)
      · exact hx4 (by rw [e]; exact m4_7)
      · exact hx4 (by rw [e]; exact m4_8)
      · exact hx4 (by rw [e]; exact m4_9)
      · exact hx4 (by rw [e]; exact m4_10)
      · exact hx4 (by rw [e]; exact m4_11)
      · exact hx4 (by rw [e]; exact m4_12)
      · exact hx4 (by rw [e]; exact m4_13)
      · exact hx4 (by rw [e]; exact m4_14)
      · exact hx4 (by rw [e]; exact m4_15)
      · exact hx4 (by rw [e]; exact m4_16)
      · exact hx4 (by rw [e]; exact m4_17)
      · exact hx4 (by rw [e]; exact m4_18)
    · simp only [List.mem_cons, List.not_mem_nil, or_false] at hm
      rcases hm with e | e | e | e | e | e | e | e | e | e | e | e | e
      · exact hx5 (by rw [e]; exact m5_6)
      · exact hx5 (by rw [e]; exact m5_7)
      · exact hx5 (by rw [e]; exact m5_8)
      · exact hx5 (by rw [e]; exact m5_9)
      · exact hx5 (by rw [e]; exact m5_10)
      · exact hx5 (by rw [e]; exact m5_11)
      · exact hx5 (by rw [e]; exact m5_12)
      · exact hx5 (by rw [e]; exact m5_13)
      · exact hx5 (by rw [e]; exact m5_14)
      · exact hx5 (by rw [e]; exact m5_15)
      · exact hx5 (by rw [e]; exact m5_16)
      · exact hx5 (by rw [e]; exact m5_17)
      · exact hx5 (by rw [e]; exact m5_18)
    · simp only [List.mem_cons, List.not_mem_nil, or_false] at hm
      rcases hm with e | e | e | e | e | e | e | e | e | e | e | e
      · exact hx6 (by rw [e]; exact m6_7)
      · exact hx6 (by rw [e]; exact m6_8)
      · exact hx6 (by rw [e]; exact m6_9)
      · exact hx6 (by rw [e]; exact m6_10)
      · exact hx6 (by rw [e]; exact m6_11)
      · exact hx6 (by rw [e]; exact m6_12)
      · exact hx6 (by rw [e]; exact m6_13)
      · exact hx6 (by rw [e]; exact m6_14)
      · exact hx6 (by rw [e]; exact m6_15)
      · exact hx6 (by rw [e]; exact m6_16)
      · exact hx6 (by rw [e]; exact m6_17)
      · exact hx6 (by rw [e]; exact m6_18)
    · simp only [List.mem_cons, List.not_mem_nil, or_false] at hm
      rcases hm with e | e | e | e | e | e | e | e | e | e | e
      · exact hx7 (by rw [e]; exact m7_8)
      · exact hx7 (by rw [e]; exact m7_9)
      · exact hx7 (by rw [e]; exact m7_10)
      · exact hx7 (by rw [e]; exact m7_11)
      · exact hx7 (by rw [e]; exact m7_12)
      · exact hx7 (by rw [e]; exact m7_13)
      · exact hx7 (by rw [e]; exact m7_14)
      · exact hx7 (by rw [e]; exact m7_15)
      · exact hx7 (by rw [e]; exact m7_16)
      · exact hx7 (by rw [e]; exact m7_17)
      · exact hx7 (by rw [e]; exact m7_18)
    · simp only [List.mem_cons, List.not_mem_nil, or_false] at hm
      rcases hm with e | e | e | e | e | e | e | e | e | e
      · exact hx8 (by rw [e]; exact m8_9)
      · exact hx8 (by rw [e]; exact m8_10)
      · exact hx8 (by rw [e]; exact m8_11)
      · exact hx8 (by rw [e]; exact m8_12)
      · exact hx8 (by rw [e]; exact m8_13)
      · exact hx8 (by rw [e]; exact m8_14)
      · exact hx8 (by rw [e]; exact m8_15)
      · exact hx8 (by rw [e]; exact m8_16)
      · exact hx8 (by rw [e]; exact m8_17)
      · exact hx8 (by rw [e]; exact m8_18)
    · simp only [List.mem_cons, List.not_mem_nil, or_false] at hm
      rcases hm with e | e | e | e | e | e | e | e | e
      · exact hx9 (by rw [e]; exact m9_10)
      · exact hx9 (by rw [e]; exact m9_11)
      · exact hx9 (by rw [e]; exact m9_12)
      · exact hx9 (by rw [e]; exact m9_13)
      · exact hx9 (by rw [e]; exact m9_14)
      · exact hx9 (by rw [e]; exact m9_15)
      · exact hx9 (by rw [e]; exact m9_16)
      · exact hx9 (by rw [e]; exact m9_17)
      · exact hx9 (by rw [e]; exact m9_18)
    · simp only [List.mem_cons, List.not_mem_nil, or_false] at hm
      rcases hm with e | e | e | e | e | e | e | e
      · exact hx10 (by rw [e]; exact m10_11)
      · exact hx10 (by rw [e]; exact m10_12)
      · exact hx10 (by rw [e]; exact m10_13)
      · exact hx10 (by rw [e]; exact m10_14)
      · exact hx10 (by rw [e]; exact m10_15)
      · exact hx10 (by rw [e]; exact m10_16)
      · exact hx10 (by rw [e]; exact m10_17)
      · exact hx10 (by rw [e]; exact m10_18)
    · simp only [List.mem_cons, List.not_mem_nil, or_false] at hm
      rcases hm with e | e | e | e | e | e | e
      · exact hx11 (by rw [e]; exact m11_12)
      · exact hx11 (by rw [e]; exact m11_13)
      · exact hx11 (by rw [e]; exact m11_14)
      · exact hx11 (by rw [e]; exact m11_15)
      · exact hx11 (by rw [e]; exact m11_16)
      · exact hx11 (by rw [e]; exact m11_17)
      · exact hx11 (by rw [e]; exact m11_18)
    · simp only [List.mem_cons, List.not_mem_nil, or_false] at hm
      rcases hm with e | e | e | e | e | e
      · exact hx12 (by rw [e]; exact m12_13)
      · exact hx12 (by rw [e]; exact m12_14)
      · exact hx12 (by rw [e]; exact m12_15)
      · exact hx12 (by rw [e]; exact m12_16)
      · exact hx12 (by rw [e]; exact m12_17)
      · exact hx12 (by rw [e]; exact m12_18)
    · simp only [List.mem_cons, List.not_mem_nil, or_false] at hm
      rcases hm with e | e | e | e | e
      · exact hx13 (by rw [e]; exact m13_14)
      · exact hx13 (by rw [e]; exact m13_15)
      · exact hx13 (by rw [e]; exact m13_16)
      · exact hx13 (by rw [e]; exact m13_17)
      · exact hx13 (by rw [e]; exact m13_18)
    · simp only [List.mem_cons, List.not_mem_nil, or_false] at hm
      rcases hm with e | e | e | e
      · exact hx14 (by rw [e]; exact m14_15)
      · exact hx14 (by rw [e]; exact m14_16)
      · exact hx14 (by rw [e]; exact m14_17)
      · exact hx14 (by rw [e]; exact m14_18)
    · simp only [List.mem_cons, List.not_mem_nil, or_false] at hm
      rcases hm with e | e | e
      · exact hx15 (by rw [e]; exact m15_16)
      · exact hx15 (by rw [e]; exact m15_17)
      · exact hx15 (by rw [e]; exact m15_18)
    · simp only [List.mem_cons, List.not_mem_nil, or_false] at hm
      rcases hm with e | e
      · exact hx16 (by rw [e]; exact m16_17)
      · exact hx16 (by rw [e]; exact m16_18)
    · simp only [List.mem_cons, List.not_mem_nil, or_false] at hm
      exact hx17 (by rw [hm]; exact m17_18)
    · simp at hm
  have hng : 18 ≤ W.heap.size := by
    have := block_of_cell (hT 0 (by decide))
    omega
  refine ⟨fun k => [a3, a4, a5, a6, a7, a8, a9, a10, a11, a12, a13, a14, a15, a16, a17, a18].getD (k - 1) ⟨0, 0, none⟩, { laid := { size := Nat.le_refl _, low := hng, e1 := c3, e2 := c4, e3 := c5, e4 := c6, e5 := c7, e6 := c8, e7 := c9, e8 := c10, e9 := c11, e10 := c12, e11 := c13, e12 := c14, e13 := c15, e14 := c16, e15 := c17, e16 := c18, ety := hh, dist := ?_, row := ?_, lt := ?_ }, tab := hT }⟩
  · intro i j h1 h2 h3 h4 hne e
    have hl : [a3, a4, a5, a6, a7, a8, a9, a10, a11, a12, a13, a14, a15, a16, a17, a18].length = 16 := rfl
    simp only [List.getD_eq_getElem?_getD] at e
    rw [List.getElem?_eq_getElem (show i - 1 < _ by rw [hl]; omega), List.getElem?_eq_getElem (show j - 1 < _ by rw [hl]; omega)] at e
    simp only [Option.getD_some] at e
    rcases Nat.lt_or_gt_of_ne (show i - 1 ≠ j - 1 by omega) with q | q
    · exact (List.pairwise_iff_getElem.1 hnod) (i - 1) (j - 1) (by rw [hl]; omega) (by rw [hl]; omega) q e
    · exact (List.pairwise_iff_getElem.1 hnod) (j - 1) (i - 1) (by rw [hl]; omega) (by rw [hl]; omega) q e.symm
  · intro i h1 h2
    rcases (by omega : i = 1 ∨ i = 2 ∨ i = 3 ∨ i = 4 ∨ i = 5 ∨ i = 6 ∨ i = 7 ∨ i = 8 ∨ i = 9 ∨ i = 10 ∨ i = 11 ∨ i = 12 ∨ i = 13 ∨ i = 14 ∨ i = 15 ∨ i = 16) with rfl | rfl | rfl | rfl | rfl | rfl | rfl | rfl | rfl | rfl | rfl | rfl | rfl | rfl | rfl | rfl
    · exact r3
    · exact r4
    · exact r5
    · exact r6
    · exact r7
    · exact r8
    · exact r9
    · exact r10
    · exact r11
    · exact r12
    · exact r13
    · exact r14
    · exact r15
    · exact r16
    · exact r17
    · exact r18
  · intro i h1 h2
    rcases (by omega : i = 1 ∨ i = 2 ∨ i = 3 ∨ i = 4 ∨ i = 5 ∨ i = 6 ∨ i = 7 ∨ i = 8 ∨ i = 9 ∨ i = 10 ∨ i = 11 ∨ i = 12 ∨ i = 13 ∨ i = 14 ∨ i = 15 ∨ i = 16) with rfl | rfl | rfl | rfl | rfl | rfl | rfl | rfl | rfl | rfl | rfl | rfl | rfl | rfl | rfl | rfl
    · exact l3
    · exact l4
    · exact l5
    · exact l6
    · exact l7
    · exact l8
    · exact l9
    · exact l10
    · exact l11
    · exact l12
    · exact l13
    · exact l14
    · exact l15
    · exact l16
    · exact l17
    · exact l18
/-- a world that meets the condition -/
noncomputable def low : Nat := (World.holding Tryz.prog default ⟨#[], #[], []⟩).heap.size
noncomputable def laidWorld (os : Os) : World :=
  let w0 := World.holding Tryz.prog os ⟨#[.cells #[.string ⟨#[97, 110, 32, 111, 98, 106, 101, 99, 116, 32, 116, 104, 97, 116, 32, 105, 115, 32, 110, 111, 116, 32, 116, 104, 101, 114, 101]⟩] 349, .cells #[.string ⟨#[97, 110, 32, 97, 114, 103, 117, 109, 101, 110, 116, 32, 116, 104, 97, 116, 32, 109, 97, 121, 32, 110, 111, 116, 32, 98, 101]⟩] 349, .cells #[.string ⟨#[97, 110, 32, 105, 110, 112, 117, 116, 32, 116, 104, 97, 116, 32, 105, 115, 32, 110, 111, 110, 101, 32, 111, 102, 32, 116, 104, 111, 115, 101, 32, 116, 104, 97, 116, 32, 109, 97, 121, 32, 98, 101]⟩] 349, .cells #[.string ⟨#[97, 98, 111, 118, 101, 32, 97, 32, 108, 105, 109, 105, 116]⟩] 349, .cells #[.string ⟨#[110, 111, 32, 115, 117, 99, 104, 32, 108, 101, 97, 102, 44, 32, 115, 105, 122, 101, 32, 111, 114, 32, 115, 116, 114, 101, 116, 99, 104]⟩] 349, .cells #[.string ⟨#[110, 111, 116, 104, 105, 110, 103, 32, 111, 102, 32, 116, 104, 97, 116, 32, 110, 97, 109, 101]⟩] 349, .cells #[.string ⟨#[105, 116, 32, 99, 111, 117, 108, 100, 32, 110, 111, 116, 32, 98, 101, 32, 114, 101, 97, 100]⟩] 349, .cells #[.string ⟨#[116, 104, 101, 32, 115, 116, 111, 114, 101, 32, 104, 97, 115, 32, 99, 114, 97, 115, 104, 101, 100]⟩] 349, .cells #[.string ⟨#[119, 104, 97, 116, 32, 108, 105, 101, 115, 32, 105, 110, 32, 116, 104, 101, 32, 115, 116, 111, 114, 101, 32, 105, 115, 32, 110, 111, 32, 108, 111, 103]⟩] 349, .cells #[.string ⟨#[105, 116, 32, 100, 111, 101, 115, 32, 110, 111, 116, 32, 112, 114, 111, 118, 101, 32, 116, 104, 97, 116]⟩] 349, .cells #[.string ⟨#[110, 111, 32, 107, 101, 121, 32, 105, 115, 32, 108, 101, 102, 116]⟩] 349, .cells #[.string ⟨#[110, 111, 116, 32, 115, 105, 103, 110, 101, 100, 32, 98, 121, 32, 119, 104, 111, 109, 32, 105, 116, 32, 115, 104, 111, 117, 108, 100, 32, 98, 101]⟩] 349, .cells #[.string ⟨#[116, 119, 111, 32, 108, 111, 103, 115, 32, 111, 102, 32, 111, 110, 101, 32, 110, 97, 109, 101]⟩] 349, .cells #[.string ⟨#[111, 108, 100, 101, 114, 32, 116, 104, 97, 110, 32, 119, 104, 97, 116, 32, 105, 115, 32, 107, 110, 111, 119, 110]⟩] 349, .cells #[.string ⟨#[115, 116, 111, 112, 112, 101, 100]⟩] 349, .cells #[.string ⟨#[110, 111, 32, 115, 99, 114, 105, 112, 116]⟩] 349], #[], []⟩
  { w0 with heap := (((((((((((((((((((((w0.heap).modify 19 (fun | .cells _ t frozen => .cells #[.int .u8 0, .int .u8 1, .int .u8 28, .int .u8 2, .int .u8 29, .int .u8 14, .int .u8 24, .int .u8 3, .int .u8 30, .int .u8 22, .int .u8 20, .int .u8 15, .int .u8 25, .int .u8 17, .int .u8 4, .int .u8 8, .int .u8 31, .int .u8 27, .int .u8 13, .int .u8 23, .int .u8 21, .int .u8 19, .int .u8 16, .int .u8 7, .int .u8 26, .int .u8 12, .int .u8 18, .int .u8 6, .int .u8 11, .int .u8 5, .int .u8 10, .int .u8 9] t frozen | o => o)).modify 20 (fun | .cells _ t frozen => .cells #[.int .u8 0, .int .u8 1, .int .u8 56, .int .u8 2, .int .u8 57, .int .u8 49, .int .u8 28, .int .u8 3, .int .u8 61, .int .u8 58, .int .u8 42, .int .u8 50, .int .u8 38, .int .u8 29, .int .u8 17, .int .u8 4, .int .u8 62, .int .u8 47, .int .u8 59, .int .u8 36, .int .u8 45, .int .u8 43, .int .u8 51, .int .u8 22, .int .u8 53, .int .u8 39, .int .u8 33, .int .u8 30, .int .u8 24, .int .u8 18, .int .u8 12, .int .u8 5, .int .u8 63, .int .u8 55, .int .u8 48, .int .u8 27, .int .u8 60, .int .u8 41, .int .u8 37, .int .u8 16, .int .u8 46, .int .u8 35, .int .u8 44, .int .u8 21, .int .u8 52, .int .u8 32, .int .u8 23, .int .u8 11, .int .u8 54, .int .u8 26, .int .u8 40, .int .u8 15, .int .u8 34, .int .u8 20, .int .u8 31, .int .u8 10, .int .u8 25, .int .u8 14, .int .u8 19, .int .u8 9, .int .u8 13, .int .u8 8, .int .u8 7, .int .u8 6] t frozen | o => o)).modify 18 (fun | .cells _ t frozen => .cells #[.int .u64 1, .int .u64 10, .int .u64 100, .int .u64 1000, .int .u64 10000, .int .u64 100000, .int .u64 1000000, .int .u64 10000000, .int .u64 100000000, .int .u64 1000000000, .int .u64 10000000000, .int .u64 100000000000, .int .u64 1000000000000, .int .u64 10000000000000, .int .u64 100000000000000, .int .u64 1000000000000000, .int .u64 10000000000000000, .int .u64 100000000000000000, .int .u64 1000000000000000000, .int .u64 10000000000000000000] t frozen | o => o)).modify 16 (fun | .cells _ t frozen => .cells #[.iface 303 (.agg #[.pointer (some ⟨21, 31, none⟩)])] t frozen | o => o)).modify 2 (fun | .cells _ t frozen => .cells #[.iface 330 (.pointer (some ⟨low + 0, 0, none⟩))] t frozen | o => o)).modify 0 (fun | .cells _ t frozen => .cells #[.iface 330 (.pointer (some ⟨low + 1, 0, none⟩))] t frozen | o => o)).modify 4 (fun | .cells _ t frozen => .cells #[.iface 330 (.pointer (some ⟨low + 2, 0, none⟩))] t frozen | o => o)).modify 6 (fun | .cells _ t frozen => .cells #[.iface 330 (.pointer (some ⟨low + 3, 0, none⟩))] t frozen | o => o)).modify 7 (fun | .cells _ t frozen => .cells #[.iface 330 (.pointer (some ⟨low + 4, 0, none⟩))] t frozen | o => o)).modify 8 (fun | .cells _ t frozen => .cells #[.iface 330 (.pointer (some ⟨low + 5, 0, none⟩))] t frozen | o => o)).modify 9 (fun | .cells _ t frozen => .cells #[.iface 330 (.pointer (some ⟨low + 6, 0, none⟩))] t frozen | o => o)).modify 10 (fun | .cells _ t frozen => .cells #[.iface 330 (.pointer (some ⟨low + 7, 0, none⟩))] t frozen | o => o)).modify 11 (fun | .cells _ t frozen => .cells #[.iface 330 (.pointer (some ⟨low + 8, 0, none⟩))] t frozen | o => o)).modify 5 (fun | .cells _ t frozen => .cells #[.iface 330 (.pointer (some ⟨low + 9, 0, none⟩))] t frozen | o => o)).modify 3 (fun | .cells _ t frozen => .cells #[.iface 330 (.pointer (some ⟨low + 10, 0, none⟩))] t frozen | o => o)).modify 1 (fun | .cells _ t frozen => .cells #[.iface 330 (.pointer (some ⟨low + 11, 0, none⟩))] t frozen | o => o)).modify 12 (fun | .cells _ t frozen => .cells #[.iface 330 (.pointer (some ⟨low + 12, 0, none⟩))] t frozen | o => o)).modify 13 (fun | .cells _ t frozen => .cells #[.iface 330 (.pointer (some ⟨low + 13, 0, none⟩))] t frozen | o => o)).modify 14 (fun | .cells _ t frozen => .cells #[.iface 330 (.pointer (some ⟨low + 14, 0, none⟩))] t frozen | o => o)).modify 15 (fun | .cells _ t frozen => .cells #[.iface 330 (.pointer (some ⟨low + 15, 0, none⟩))] t frozen | o => o)).modify 17 (fun | .cells _ t frozen => .cells #[.int .u32 1116352408, .int .u32 1899447441, .int .u32 3049323471, .int .u32 3921009573, .int .u32 961987163, .int .u32 1508970993, .int .u32 2453635748, .int .u32 2870763221, .int .u32 3624381080, .int .u32 310598401, .int .u32 607225278, .int .u32 1426881987, .int .u32 1925078388, .int .u32 2162078206, .int .u32 2614888103, .int .u32 3248222580, .int .u32 3835390401, .int .u32 4022224774, .int .u32 264347078, .int .u32 604807628, .int .u32 770255983, .int .u32 1249150122, .int .u32 1555081692, .int .u32 1996064986, .int .u32 2554220882, .int .u32 2821834349, .int .u32 2952996808, .int .u32 3210313671, .int .u32 3336571891, .int .u32 3584528711, .int .u32 113926993, .int .u32 338241895, .int .u32 666307205, .int .u32 773529912, .int .u32 1294757372, .int .u32 1396182291, .int .u32 1695183700, .int .u32 1986661051, .int .u32 2177026350, .int .u32 2456956037, .int .u32 2730485921, .int .u32 2820302411, .int .u32 3259730800, .int .u32 3345764771, .int .u32 3516065817, .int .u32 3600352804, .int .u32 4094571909, .int .u32 275423344, .int .u32 430227734, .int .u32 506948616, .int .u32 659060556, .int .u32 883997877, .int .u32 958139571, .int .u32 1322822218, .int .u32 1537002063, .int .u32 1747873779, .int .u32 1955562222, .int .u32 2024104815, .int .u32 2227730452, .int .u32 2361852424, .int .u32 2428436474, .int .u32 2756734187, .int .u32 3204031479, .int .u32 3329325298] t frozen | o => o) }
theorem laidWorld_met (os : Os) (args : Array Value) : laidMetH Tryz.prog laidL ((laidWorld os).forCall (fun _ _ => 0) ⟨#[], args, []⟩).memory :=
  laidMetH_of_parts (laidMet_of_run' 8 (by kernel_rfl) (by kernel_rfl)) (by kernel_rfl)
section
variable {H : Type} {enc : TypeId × Value → H} {P : Program}
theorem post_of_grown {f : Func} {s : ChangeSpec} {apart fresh handsOn again : Bool} {W W' : World} {args : Array Value} {v : Value} {ds gs : List (DataW H)} {before pa pv : List MemPlace}
    (hW : DataW.Whole enc P f.params.toList s.vars apart W args.toList ds gs before)
    (hres : ∀ (b : Nat) (sp : Nat → Bool) (hd : Bool), DataW.TrodAll enc P W' b sp hd f.resultTypes.toList (v.resultList f.resultTypes.size) (s.fn H (ds ++ gs)).results [])
    (hargs : ∀ sp : Nat → Bool, (∀ p ∈ before, sp p.block = true) → DataW.TrodAll enc P W' 0 sp true f.params.toList args.toList (s.fn H (ds ++ gs)).args pa)
    (hvars : ∀ sp : Nat → Bool, (∀ p ∈ before, sp p.block = true) → DataW.TrodVars enc P W' sp s.vars (s.fn H (ds ++ gs)).vars pv)
    (hps : before = pa ++ pv) (hb : Below W.heap.size W W')
    (hok : ∀ (j : Nat) (t : TypeId) (r : Value), f.resultTypes[j]? = some t → (v.resultList f.resultTypes.size)[j]? = some r → Value.okWide P W' .any 0 t r) :
    s.post enc P f apart fresh handsOn again W args v W' := by
  have hlt : ∀ p ∈ before, p.block < W.heap.size := fun p hp => hW.lt p hp
  have hold : ∀ p ∈ before, (fun b => decide (b < W.heap.size)) p.block = true := fun p hp => by simpa using hlt p hp
  refine ⟨ds, gs, before, [], pa, pv, hW, hres _ _ _, hargs _ hold, hvars _ hold, World.keptBut_mono (fun p hp => ⟨hp, ?_⟩) (hb.frame (· ∈ before)), fun _ => ?_⟩
  · rw [hps, List.mem_append] at hp
    exact Or.inr hp
  · obtain ⟨_, _, _, _, _, hz, hn⟩ := hW
    refine ⟨hok, _, _, ([] ++ pa) ++ pv, ⟨[] ++ pa, pv, trodAll_append (hargs _ (fun _ _ => rfl)) (hres _ _ _), hvars _ (fun _ _ => rfl), rfl, ?_, ?_⟩, ?_⟩
    · intro b off hp
      have hin : MemPlace.cell b off ∈ before := by rw [hps]; simpa using hp
      rw [hb.frozen (hlt _ hin)]
      exact hz b off hin
    · intro ha
      have := hn ha
      rw [hps] at this
      simpa using this
    · intro p hp _
      rw [hps]
      simpa using hp
end
end Go.Proofs.YtnpblpbcchminaaGreatDoor
