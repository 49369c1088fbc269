/- What is proved: the law ForgeConsistencies, as a tied card: whatever it is given, the call returns true, and what came in reads as it did. The package-level variables that its row lists are tied to the program text. -/
import Derived.Test.YtpdkpdpkggepcaaGreatDoorRows
import Derived.Test.YtpdkpdpkggepcaaGreatDoorTie
import Derived.Test.YtpdkpdpkggepcaaGreatDoorCards
import Derived.Test.YtpdkpdpkggepcaaGreatDoorEnv
import Derived.Test.YtpdkpdpkggepcaaGreatDoorLawFConss
import Derived.SizedLaws
import Derived.SevenTiedAt
import Derived.Handed
namespace Go.Proofs.YtpdkpdpkggepcaaGreatDoor.forgeConsistencies
theorem laidOut_prog : laidOutB Tryz.prog = true := by kernel_rfl
open Go.ChangeShapes Go.WideShapes Go.ChangeAt Go.RowKit
set_option linter.unusedVariables false
set_option maxRecDepth 100000 in
theorem lifted (os : Os) (started : os.Started) (H : Type) (enc : TypeId × Value → H) :
    ReturnsInHanded {} Tryz.checked os 4 .any (fun w args => (Rows.forgeConsistenciesSpec.pre enc Tryz.prog Tryz.f4 [] false w args ∧ laidMetH Tryz.prog laidL w) ∧ sizedMet enc Tryz.prog Tryz.f4 (OpenSpec.ofChange Rows.forgeConsistenciesSpec) false w args)
      (Rows.forgeConsistenciesSpec.post enc Tryz.prog Tryz.f4 false true false false) := by
  refine returnsInHanded_of_change_and (C := Tryz.checked) (X := fun w _ => laidMetH Tryz.prog laidL w) (fun _ _ _ hh h => h.of_heap hh) own_knob started (by kernel_rfl) Tryz.func4
    (ChangeSpec.witness_at (enc := enc) (C := Tryz.checked) (os := os) (X := fun w _ => laidMetH Tryz.prog laidL w) false (laidWorld os) #[.slice none 0 0, .int .u64 0, .int .u64 0, .agg #[.int .u8 0, .int .u8 0, .int .u8 0, .int .u8 0, .int .u8 0, .int .u8 0, .int .u8 0, .int .u8 0, .int .u8 0, .int .u8 0, .int .u8 0, .int .u8 0, .int .u8 0, .int .u8 0, .int .u8 0, .int .u8 0, .int .u8 0, .int .u8 0, .int .u8 0, .int .u8 0, .int .u8 0, .int .u8 0, .int .u8 0, .int .u8 0, .int .u8 0, .int .u8 0, .int .u8 0, .int .u8 0, .int .u8 0, .int .u8 0, .int .u8 0, .int .u8 0], .slice none 0 0] 8 rfl (by kernel_rfl) (by kernel_rfl) (by kernel_rfl) (by kernel_rfl) (by kernel_rfl) (laidWorld_met os _)) ?_
  intro W base args ds gs before hval0 hW _ hsz0 hL _
  have hval : ∀ (j : Nat) t v, Tryz.f4.params[j]? = some t → args[j]? = some v → Value.okWide Tryz.prog W .any base t v := hval0
  have hW' := hW
  obtain ⟨p, q, hA0, hV0, rfl, hfz, hnd⟩ := hW
  have hA : DataW.TrodAll enc Tryz.prog W 0 (fun _ => true) true Tryz.f4.params.toList args.toList ds p := hA0
  have hV : DataW.TrodVars enc Tryz.prog W (fun _ => true) [] gs q := hV0
  rw [Tryz.params4] at hA hval
  obtain ⟨v0, vs0, d0, ds0, p0, q0, hargs, rfl, rfl, h0, r0⟩ := trodAll_cons hA
  obtain ⟨v1, vs1, d1, ds1, p1, q1, rfl, rfl, rfl, h1, r1⟩ := trodAll_cons r0
  obtain ⟨v2, vs2, d2, ds2, p2, q2, rfl, rfl, rfl, h2, r2⟩ := trodAll_cons r1
  obtain ⟨v3, vs3, d3, ds3, p3, q3, rfl, rfl, rfl, h3, r3⟩ := trodAll_cons r2
  obtain ⟨v4, vs4, d4, ds4, p4, q4, rfl, rfl, rfl, h4, r4⟩ := trodAll_cons r3
  obtain ⟨rfl, rfl, rfl⟩ := trodAll_nil r4
  obtain rfl : args = #[v0, v1, v2, v3, v4] := by cases args; simp_all
  obtain ⟨rfl, rfl⟩ : gs = [] ∧ q = [] := by
    cases gs with
    | nil => exact ⟨rfl, hV⟩
    | cons g r => exact absurd hV (by intro h; cases h)
  have k0 := h0
  have o0 := hval 0 22 v0 rfl rfl
  have lt0 : ∀ x ∈ p0, x.block < W.heap.size := by obtain ⟨m, hm⟩ := k0; exact DataW.trod_lt m _ _ _ hm
  obtain ⟨a1, rfl, rfl, rfl, w1⟩ := open_int Tryz.underlying23 (hval 1 23 v1 rfl rfl) h1
  obtain ⟨a2, rfl, rfl, rfl, w2⟩ := open_int Tryz.underlying23 (hval 2 23 v2 rfl rfl) h2
  have k3 := h3
  have o3 := hval 3 39 v3 rfl rfl
  have lt3 : ∀ x ∈ p3, x.block < W.heap.size := by obtain ⟨m, hm⟩ := k3; exact DataW.trod_lt m _ _ _ hm
  have k4 := h4
  have o4 := hval 4 24 v4 rfl rfl
  have lt4 : ∀ x ∈ p4, x.block < W.heap.size := by obtain ⟨m, hm⟩ := k4; exact DataW.trod_lt m _ _ _ hm
  clear hA0 hV0 hval0
  simp only [List.append_nil] at hW'
  obtain ⟨a, hE⟩ := env_of_laid hL
  have hcall : Calls Tryz.prog 4 #[v0, .int .u64 a1, .int .u64 a2, v3, v4] W fun e w' => e = .returned (.bool true) ∧ Below W.heap.size W w' := by
    obtain ⟨A, n, c, rfl⟩ := okWide_slice Tryz.underlying22 o0
    obtain ⟨m, hm⟩ := k0
    obtain ⟨A', n', c', l, hcs, hin⟩ := texts_arg (cs := (Value.slice A n c).cells) hm (fun z hz => by
      have := List.all_eq_true.1 hsz0 z (DataW.weights_mem_each (j := 0) (d := d0) rfl rfl z hz)
      simpa using this)
    simp [Value.cells] at hcs
    obtain ⟨rfl, rfl, rfl⟩ := hcs
    obtain ⟨m3, hm3⟩ := k3
    obtain ⟨b0, hb0, rfl⟩ := hash_arg o3 hm3
    obtain ⟨G, mm, gg, rfl⟩ := okWide_slice Tryz.underlying24 o4
    obtain ⟨m4, hm4⟩ := k4
    obtain ⟨G', mm', gg', PP, hcs4, hin4, hn4⟩ := hashes_arg (cs := (Value.slice G mm gg).cells) hm4 (fun z hz => by
      have := List.all_eq_true.1 hsz0 z (DataW.weights_mem_each (j := 4) (d := d4) rfl rfl z hz)
      simpa using this)
    simp [Value.cells] at hcs4
    obtain ⟨rfl, rfl, rfl⟩ := hcs4
    have q1 := wf_u64 w1
    have q2 := wf_u64 w2
    obtain ⟨X, rfl⟩ : ∃ X : Nat, a1 = X := ⟨a1.toNat, by omega⟩
    obtain ⟨Z, rfl⟩ : ∃ X : Nat, a2 = X := ⟨a2.toNat, by omega⟩
    by_cases hg : 1048576 < n + bulk l + mm
    · exact fcs_great a _ l b0 PP A n c X Z G mm gg W hE hin (by omega) (by omega) hb0 hin4 hn4 hg
    · exact fcs_all a _ l b0 PP A n c X Z G mm gg W hE hin (by omega) (by omega) hb0 hin4 hn4 (by omega)
  refine hcall.mono fun e W' ⟨he, hb⟩ => ?_
  subst he
  exact ⟨_, rfl, _, _, _, [], _, [], hW', trodAll_mk1 (shut_bool Tryz.underlying4 _), (trodAll_cons_mk (Below.trod laidOut_prog (by kernel_rfl) (of_decide_eq_true (by kernel_rfl)) k0 hb lt0) (trodAll_cons_mk (shut_int Tryz.underlying23 w1) (trodAll_cons_mk (shut_int Tryz.underlying23 w2) (trodAll_cons_mk (Below.trod laidOut_prog (by kernel_rfl) (of_decide_eq_true (by kernel_rfl)) k3 hb lt3) (trodAll_cons_mk (Below.trod laidOut_prog (by kernel_rfl) (of_decide_eq_true (by kernel_rfl)) k4 hb lt4) trodAll_mk0))))), rfl, hb.frame _, fun h => by cases h⟩
theorem over : Rows.forgeConsistenciesRow.holds Tryz.pinned (OpenSpec.ofChange Rows.forgeConsistenciesSpec) :=
  OpenClaim.holds_of_wide 4 Tryz.f4 rfl rfl rfl rfl rfl rfl rfl ⟨rfl, rfl, rfl, rfl, rfl⟩ rfl rfl rfl rfl rfl (by kernel_rfl) Tryz.func4 (by kernel_rfl)
    (of_decide_eq_true (by kernel_rfl)) (by unfold Func.isWrapper; first | (rw [if_pos (by decide +kernel)]; kernel_rfl) | (rw [if_neg (by decide +kernel)]; exact ⟨rfl, rfl⟩))
    (fun os started H enc _ => lifted os started H enc)
theorem proved : Rows.ForgeConsistenciesCardSaid :=
  Claim7.holds_tied_plain_at .later [] [.handle, .sentinel, .sentinel, .sentinel, .sentinel, .sentinel, .sentinel, .sentinel, .sentinel, .sentinel, .sentinel, .sentinel, .sentinel, .sentinel, .sentinel, .sentinel, .sentinel, .data] true (true, "5071d643701929706a8e1a1dc251f36266524e53c5117a6ef76a71e9551df48f") true
    over (fun _ h => by cases h) (by kernel_rfl) (fun _ h => by cases h) forgeConsistencies_row_tie rfl ⟨rfl, rfl⟩ (by kernel_rfl) rfl
    (fun f fn hf hfn => by
      obtain rfl : f = 4 := Option.some.inj ((show Tryz.prog.funcNamed "cartulary/cartularylaw20.ForgeConsistencies" = some 4 by kernel_rfl).symm.trans hf) |>.symm
      obtain rfl : fn = Tryz.f4 := (Option.some.inj (Tryz.func4.symm.trans hfn)).symm
      exact ⟨by kernel_rfl, fun j t ht => by
        rw [Tryz.params4] at ht
        have hm : t ∈ ([22, 23, 23, 39, 24] : List Nat) := by
          have := Array.mem_of_getElem? ht
          simpa using this
        simp only [List.mem_cons, List.not_mem_nil, or_false] at hm
        rcases hm with rfl | rfl | rfl | rfl | rfl
        · exact (show Tryz.prog.wantsStandIn 22 = false by kernel_rfl)
        · exact (show Tryz.prog.wantsStandIn 23 = false by kernel_rfl)
        · exact (show Tryz.prog.wantsStandIn 23 = false by kernel_rfl)
        · exact (show Tryz.prog.wantsStandIn 39 = false by kernel_rfl)
        · exact (show Tryz.prog.wantsStandIn 24 = false by kernel_rfl)⟩)
    (by kernel_rfl)
end Go.Proofs.YtpdkpdpkggepcaaGreatDoor.forgeConsistencies
