/- What the listed variables give a walk, and a world that meets the condition. -/
import Derived.Test.YtjhlgkjgodjmhaaDoorLaidPlain
import Derived.Test.YtjhlgkjgodjmhaaDoorHashAid
namespace Go.Proofs.YtjhlgkjgodjmhaaDoor
open Go.ChangeShapes Go.WideShapes Go.ChangeAt Go.RowKit
set_option linter.unusedVariables false
theorem own_knob : ownKnob Tryd.prog.godebug = none := by kernel_rfl
theorem es_name : Tryd.prog.typeName? 3 115 = some "*errors.errorString" := by kernel_rfl
theorem star_es : "*" ++ "errors.errorString" = "*errors.errorString" := by decide
theorem ptr_row : ∀ u, Tryd.prog.typeName? 3 u = some "*errors.errorString" → u = 115 := fun u h =>
  typeName_ptr_named (nm := "errors.errorString") (by rw [star_es]; kernel_rfl) (by kernel_rfl) (by decide) u (by rw [star_es]; exact h)
theorem c_es : Tryd.prog.cellsOf 140 = 1 := by kernel_rfl
theorem c_str : Tryd.prog.cellsOf 9 = 1 := by kernel_rfl
def laidL : List (String × DataW Unit) := [("cartulary/api.ErrNil", Rows.laid_cartulary_api_ErrNil), ("cartulary/api.ErrArg", Rows.laid_cartulary_api_ErrArg), ("cartulary/api.ErrLimit", Rows.laid_cartulary_api_ErrLimit), ("cartulary/api.ErrRange", Rows.laid_cartulary_api_ErrRange), ("cartulary/api.ErrProof", Rows.laid_cartulary_api_ErrProof), ("cartulary/sha.table", Rows.laid_cartulary_sha_table)]

theorem env_of_laid {W : World} (h : laidMetH Tryd.prog laidL W) : ∃ a, Env W.heap.size a W := by
  have h' : laidMet Tryd.prog [("cartulary/api.ErrNil", Rows.laid_cartulary_api_ErrNil), ("cartulary/api.ErrArg", Rows.laid_cartulary_api_ErrArg), ("cartulary/api.ErrLimit", Rows.laid_cartulary_api_ErrLimit), ("cartulary/api.ErrRange", Rows.laid_cartulary_api_ErrRange), ("cartulary/api.ErrProof", Rows.laid_cartulary_api_ErrProof), ("cartulary/sha.table", Rows.laid_cartulary_sha_table)] W := h
  obtain ⟨ps, hv0, hnd, hrows⟩ := h'
  clear h
  obtain ⟨a0, q0, c0, l0, r0, hv1, e0⟩ := step_sent hv0 hrows (g := 2) (by kernel_rfl) (by kernel_rfl) Tryd.underlying35 ptr_row Tryd.underlying115 Tryd.underlying140 rfl rfl Tryd.underlying9 c_es c_str
  have hr1 : ∀ b off, MemPlace.cell b off ∈ q0 → (∃ c t, W.heap[b]? = some (.cells c t (0, 0))) ∧ ∀ u v, W.cell? ⟨b, off, none⟩ = some (.iface u v) → Value.okWide Tryd.prog W .any 0 u v := fun b off hm => hrows b off (by rw [e0]; simp [hm])
  have hn1 : q0.Nodup := by rw [e0] at hnd; exact (List.nodup_cons.1 (List.nodup_cons.1 hnd).2).2
  have hx0 : MemPlace.cell a0.block a0.off ∉ q0 := by rw [e0] at hnd; exact (List.nodup_cons.1 (List.nodup_cons.1 hnd).2).1
  obtain ⟨a1, q1, c1, l1, r1, hv2, e1⟩ := step_sent hv1 hr1 (g := 4) (by kernel_rfl) (by kernel_rfl) Tryd.underlying35 ptr_row Tryd.underlying115 Tryd.underlying140 rfl rfl Tryd.underlying9 c_es c_str
  have hr2 : ∀ b off, MemPlace.cell b off ∈ q1 → (∃ c t, W.heap[b]? = some (.cells c t (0, 0))) ∧ ∀ u v, W.cell? ⟨b, off, none⟩ = some (.iface u v) → Value.okWide Tryd.prog W .any 0 u v := fun b off hm => hr1 b off (by rw [e1]; simp [hm])
  have hn2 : q1.Nodup := by rw [e1] at hn1; exact (List.nodup_cons.1 (List.nodup_cons.1 hn1).2).2
  have hx1 : MemPlace.cell a1.block a1.off ∉ q1 := by rw [e1] at hn1; exact (List.nodup_cons.1 (List.nodup_cons.1 hn1).2).1
  obtain ⟨a2, q2, c2, l2, r2, hv3, e2⟩ := step_sent hv2 hr2 (g := 3) (by kernel_rfl) (by kernel_rfl) Tryd.underlying35 ptr_row Tryd.underlying115 Tryd.underlying140 rfl rfl Tryd.underlying9 c_es c_str
  have hr3 : ∀ b off, MemPlace.cell b off ∈ q2 → (∃ c t, W.heap[b]? = some (.cells c t (0, 0))) ∧ ∀ u v, W.cell? ⟨b, off, none⟩ = some (.iface u v) → Value.okWide Tryd.prog W .any 0 u v := fun b off hm => hr2 b off (by rw [e2]; simp [hm])
  have hn3 : q2.Nodup := by rw [e2] at hn2; exact (List.nodup_cons.1 (List.nodup_cons.1 hn2).2).2
  have hx2 : MemPlace.cell a2.block a2.off ∉ q2 := by rw [e2] at hn2; exact (List.nodup_cons.1 (List.nodup_cons.1 hn2).2).1
  obtain ⟨a3, q3, c3, l3, r3, hv4, e3⟩ := step_sent hv3 hr3 (g := 1) (by kernel_rfl) (by kernel_rfl) Tryd.underlying35 ptr_row Tryd.underlying115 Tryd.underlying140 rfl rfl Tryd.underlying9 c_es c_str
  have hr4 : ∀ b off, MemPlace.cell b off ∈ q3 → (∃ c t, W.heap[b]? = some (.cells c t (0, 0))) ∧ ∀ u v, W.cell? ⟨b, off, none⟩ = some (.iface u v) → Value.okWide Tryd.prog W .any 0 u v := fun b off hm => hr3 b off (by rw [e3]; simp [hm])
  have hn4 : q3.Nodup := by rw [e3] at hn3; exact (List.nodup_cons.1 (List.nodup_cons.1 hn3).2).2
  have hx3 : MemPlace.cell a3.block a3.off ∉ q3 := by rw [e3] at hn3; exact (List.nodup_cons.1 (List.nodup_cons.1 hn3).2).1
  obtain ⟨a4, q4, c4, l4, r4, hv5, e4⟩ := step_sent hv4 hr4 (g := 0) (by kernel_rfl) (by kernel_rfl) Tryd.underlying35 ptr_row Tryd.underlying115 Tryd.underlying140 rfl rfl Tryd.underlying9 c_es c_str
  have hr5 : ∀ b off, MemPlace.cell b off ∈ q4 → (∃ c t, W.heap[b]? = some (.cells c t (0, 0))) ∧ ∀ u v, W.cell? ⟨b, off, none⟩ = some (.iface u v) → Value.okWide Tryd.prog W .any 0 u v := fun b off hm => hr4 b off (by rw [e4]; simp [hm])
  have hn5 : q4.Nodup := by rw [e4] at hn4; exact (List.nodup_cons.1 (List.nodup_cons.1 hn4).2).2
  have hx4 : MemPlace.cell a4.block a4.off ∉ q4 := by rw [e4] at hn4; exact (List.nodup_cons.1 (List.nodup_cons.1 hn4).2).1
  obtain ⟨cs5, fu5, p5, q5, hc5, ht5, hv6, e5⟩ := step_data hv5 (g := 5) (ti := 113) (by kernel_rfl) (by kernel_rfl)
  have hr6 : ∀ b off, MemPlace.cell b off ∈ q5 → (∃ c t, W.heap[b]? = some (.cells c t (0, 0))) ∧ ∀ u v, W.cell? ⟨b, off, none⟩ = some (.iface u v) → Value.okWide Tryd.prog W .any 0 u v := fun b off hm => hr5 b off (by rw [e5]; simp [hm])
  have hn6 : q5.Nodup := by rw [e5] at hn5; exact (List.nodup_append.1 hn5).2.1
  have hT : KTab 5 W := fun j hj => by
    have hx : shaK[j]? = some (shaK.getD j 0) := by rw [List.getD_eq_getElem?_getD, List.getElem?_eq_getElem (show j < shaK.length from hj)]; rfl
    have := table_cells (l := shaK) Tryd.underlying113 Tryd.underlying97 (by kernel_rfl) (by kernel_rfl) ht5 j _ hx
    have hcell := World.var?_cell (show Tryd.prog.globalNamed "cartulary/sha.table" = some 5 by kernel_rfl) hc5 j
    rw [hcell, ← Array.getElem?_toList]; exact this
  have hlast : True := trivial
  have m0_1 : MemPlace.cell a1.block a1.off ∈ q0 := by rw [e1]; simp
  have m1_2 : MemPlace.cell a2.block a2.off ∈ q1 := by rw [e2]; simp
  have m2_3 : MemPlace.cell a3.block a3.off ∈ q2 := by rw [e3]; simp
  have m3_4 : MemPlace.cell a4.block a4.off ∈ q3 := by rw [e4]; simp
  have m2_4 : MemPlace.cell a4.block a4.off ∈ q2 := by rw [e3]; simp [m3_4]
  have m1_3 : MemPlace.cell a3.block a3.off ∈ q1 := by rw [e2]; simp [m2_3]
  have m1_4 : MemPlace.cell a4.block a4.off ∈ q1 := by rw [e2]; simp [m2_4]
  have m0_2 : MemPlace.cell a2.block a2.off ∈ q0 := by rw [e1]; simp [m1_2]
  have m0_3 : MemPlace.cell a3.block a3.off ∈ q0 := by rw [e1]; simp [m1_3]
  have m0_4 : MemPlace.cell a4.block a4.off ∈ q0 := by rw [e1]; simp [m1_4]
  have hnod : [a0, a1, a2, a3, a4].Nodup := by
    refine List.nodup_cons.2 ⟨fun hm => ?_, List.nodup_cons.2 ⟨fun hm => ?_, List.nodup_cons.2 ⟨fun hm => ?_, List.nodup_cons.2 ⟨fun hm => ?_, List.nodup_cons.2 ⟨fun hm => ?_, List.nodup_nil⟩⟩⟩⟩⟩
    · simp only [List.mem_cons, List.not_mem_nil, or_false] at hm
      rcases hm with e | e | e | e
      · exact hx0 (by rw [e]; exact m0_1)
      · exact hx0 (by rw [e]; exact m0_2)
      · exact hx0 (by rw [e]; exact m0_3)
      · exact hx0 (by rw [e]; exact m0_4)
    · simp only [List.mem_cons, List.not_mem_nil, or_false] at hm
      rcases hm with e | e | e
      · exact hx1 (by rw [e]; exact m1_2)
      · exact hx1 (by rw [e]; exact m1_3)
      · exact hx1 (by rw [e]; exact m1_4)
    · simp only [List.mem_cons, List.not_mem_nil, or_false] at hm
      rcases hm with e | e
      · exact hx2 (by rw [e]; exact m2_3)
      · exact hx2 (by rw [e]; exact m2_4)
    · simp only [List.mem_cons, List.not_mem_nil, or_false] at hm
      exact hx3 (by rw [hm]; exact m3_4)
    · simp at hm
  have hng : 6 ≤ W.heap.size := by
    have := block_of_cell (hT 0 (by decide))
    omega
  refine ⟨fun k => if k = 1 then a0 else if k = 2 then a1 else if k = 4 then a2 else if k = 5 then a3 else if k = 10 then a4 else ⟨0, 0, none⟩, { laid := { size := Nat.le_refl _, low := hng, e1 := c0, e2 := c1, e4 := c2, e5 := c3, e10 := c4 }, tab := hT }⟩
/-- a world that meets the condition -/
noncomputable def low : Nat := (World.holding Tryd.prog default ⟨#[], #[], []⟩).heap.size
noncomputable def laidWorld (os : Os) : World :=
  let w0 := World.holding Tryd.prog os ⟨#[.cells #[.string ⟨#[97, 110, 32, 111, 98, 106, 101, 99, 116, 32, 116, 104, 97, 116, 32, 105, 115, 32, 110, 111, 116, 32, 116, 104, 101, 114, 101]⟩] 140, .cells #[.string ⟨#[97, 110, 32, 97, 114, 103, 117, 109, 101, 110, 116, 32, 116, 104, 97, 116, 32, 109, 97, 121, 32, 110, 111, 116, 32, 98, 101]⟩] 140, .cells #[.string ⟨#[97, 98, 111, 118, 101, 32, 97, 32, 108, 105, 109, 105, 116]⟩] 140, .cells #[.string ⟨#[110, 111, 32, 115, 117, 99, 104, 32, 108, 101, 97, 102, 44, 32, 115, 105, 122, 101, 32, 111, 114, 32, 115, 116, 114, 101, 116, 99, 104]⟩] 140, .cells #[.string ⟨#[105, 116, 32, 100, 111, 101, 115, 32, 110, 111, 116, 32, 112, 114, 111, 118, 101, 32, 116, 104, 97, 116]⟩] 140], #[], []⟩
  { w0 with heap := ((((((w0.heap).modify 2 (fun | .cells _ t frozen => .cells #[.iface 115 (.pointer (some ⟨low + 0, 0, none⟩))] t frozen | o => o)).modify 4 (fun | .cells _ t frozen => .cells #[.iface 115 (.pointer (some ⟨low + 1, 0, none⟩))] t frozen | o => o)).modify 3 (fun | .cells _ t frozen => .cells #[.iface 115 (.pointer (some ⟨low + 2, 0, none⟩))] t frozen | o => o)).modify 1 (fun | .cells _ t frozen => .cells #[.iface 115 (.pointer (some ⟨low + 3, 0, none⟩))] t frozen | o => o)).modify 0 (fun | .cells _ t frozen => .cells #[.iface 115 (.pointer (some ⟨low + 4, 0, none⟩))] t frozen | o => o)).modify 5 (fun | .cells _ t frozen => .cells #[.int .u32 1116352408, .int .u32 1899447441, .int .u32 3049323471, .int .u32 3921009573, .int .u32 961987163, .int .u32 1508970993, .int .u32 2453635748, .int .u32 2870763221, .int .u32 3624381080, .int .u32 310598401, .int .u32 607225278, .int .u32 1426881987, .int .u32 1925078388, .int .u32 2162078206, .int .u32 2614888103, .int .u32 3248222580, .int .u32 3835390401, .int .u32 4022224774, .int .u32 264347078, .int .u32 604807628, .int .u32 770255983, .int .u32 1249150122, .int .u32 1555081692, .int .u32 1996064986, .int .u32 2554220882, .int .u32 2821834349, .int .u32 2952996808, .int .u32 3210313671, .int .u32 3336571891, .int .u32 3584528711, .int .u32 113926993, .int .u32 338241895, .int .u32 666307205, .int .u32 773529912, .int .u32 1294757372, .int .u32 1396182291, .int .u32 1695183700, .int .u32 1986661051, .int .u32 2177026350, .int .u32 2456956037, .int .u32 2730485921, .int .u32 2820302411, .int .u32 3259730800, .int .u32 3345764771, .int .u32 3516065817, .int .u32 3600352804, .int .u32 4094571909, .int .u32 275423344, .int .u32 430227734, .int .u32 506948616, .int .u32 659060556, .int .u32 883997877, .int .u32 958139571, .int .u32 1322822218, .int .u32 1537002063, .int .u32 1747873779, .int .u32 1955562222, .int .u32 2024104815, .int .u32 2227730452, .int .u32 2361852424, .int .u32 2428436474, .int .u32 2756734187, .int .u32 3204031479, .int .u32 3329325298] t frozen | o => o) }
theorem laidWorld_met (os : Os) (args : Array Value) : laidMetH Tryd.prog laidL ((laidWorld os).forCall (fun _ _ => 0) ⟨#[], args, []⟩).memory :=
  laidMetH_of_parts (laidMet_of_run' 8 (by kernel_rfl) (by kernel_rfl)) (by kernel_rfl)
section
variable {H : Type} {enc : TypeId × Value → H} {P : Program}
theorem post_of_grown {f : Func} {s : ChangeSpec} {apart fresh handsOn again : Bool} {W W' : World} {args : Array Value} {v : Value} {ds gs : List (DataW H)} {before pa pv : List MemPlace}
    (hW : DataW.Whole enc P f.params.toList s.vars apart W args.toList ds gs before)
    (hres : ∀ (b : Nat) (sp : Nat → Bool) (hd : Bool), DataW.TrodAll enc P W' b sp hd f.resultTypes.toList (v.resultList f.resultTypes.size) (s.fn H (ds ++ gs)).results [])
    (hargs : ∀ sp : Nat → Bool, (∀ p ∈ before, sp p.block = true) → DataW.TrodAll enc P W' 0 sp true f.params.toList args.toList (s.fn H (ds ++ gs)).args pa)
    (hvars : ∀ sp : Nat → Bool, (∀ p ∈ before, sp p.block = true) → DataW.TrodVars enc P W' sp s.vars (s.fn H (ds ++ gs)).vars pv)
    (hps : before = pa ++ pv) (hb : Below W.heap.size W W')
    (hok : ∀ (j : Nat) (t : TypeId) (r : Value), f.resultTypes[j]? = some t → (v.resultList f.resultTypes.size)[j]? = some r → Value.okWide P W' .any 0 t r) :
    s.post enc P f apart fresh handsOn again W args v W' := by
  have hlt : ∀ p ∈ before, p.block < W.heap.size := fun p hp => hW.lt p hp
  have hold : ∀ p ∈ before, (fun b => decide (b < W.heap.size)) p.block = true := fun p hp => by simpa using hlt p hp
  refine ⟨ds, gs, before, [], pa, pv, hW, hres _ _ _, hargs _ hold, hvars _ hold, World.keptBut_mono (fun p hp => ⟨hp, ?_⟩) (hb.frame (· ∈ before)), fun _ => ?_⟩
  · rw [hps, List.mem_append] at hp
    exact Or.inr hp
  · obtain ⟨_, _, _, _, _, hz, hn⟩ := hW
    refine ⟨hok, _, _, ([] ++ pa) ++ pv, ⟨[] ++ pa, pv, trodAll_append (hargs _ (fun _ _ => rfl)) (hres _ _ _), hvars _ (fun _ _ => rfl), rfl, ?_, ?_⟩, ?_⟩
    · intro b off hp
      have hin : MemPlace.cell b off ∈ before := by rw [hps]; simpa using hp
      rw [hb.frozen (hlt _ hin)]
      exact hz b off hin
    · intro ha
      have := hn ha
      rw [hps] at this
      simpa using this
    · intro p hp _
      rw [hps]
      simpa using hp
end
end Go.Proofs.YtjhlgkjgodjmhaaDoor
