/- sha.New and sha.Digest.Copy. No condition. -/
import Derived.Test.YtnpblpbcchminaaDoorShaDig
import Derived.Test.YtnpblpbcchminaaDoorRefSched
import Derived.Test.YtnpblpbcchminaaDoorHashMem
import Derived.RegionTactic
import Derived.Deep.RegionHeld3
import Derived.Laws.AppendOwnNone
import Derived.Outline
namespace Go.Proofs.YtnpblpbcchminaaDoor
open Go.ChangeShapes Go.WideShapes Go.ChangeAt Go.RowKit
set_option linter.unusedVariables false
set_option maxRecDepth 100000 in
theorem new_any (w : World) : Calls Tryd.prog 56 #[] w fun ev w' => ∃ D hb, ev = .returned (.pointer (some ⟨D, 0, none⟩)) ∧ DigAt w.heap.size D hb w' [] 0 [] [] (.slice none 0 0) ∧ Below w.heap.size w w' := by
  go_enter Tryd.func56, Tryd.ntmps56
  go_wp2
  go_ret
  refine ⟨_, w.heap.size, rfl, ⟨rfl, rfl, by simp, ⟨?_, ?_, by simp⟩, World.ownsRow_nil _ _ _ _, ⟨by simp [Value.ownBlock], by simp [Value.ownBlock]⟩, by simp, by simp⟩, ((Below.refl _ w).alloc (Nat.le_refl _) _).alloc (by simp) _⟩
  · have h := heap_alloc_new (w.alloc (.cells ((shaH0.map (Value.int .u32)).toArray) 131)) (.cells #[.pointer (some ⟨w.heap.size, 0, none⟩), .slice none 0 0, .int .u64 0] 133)
    rw [World.size_alloc] at h
    exact h
  · exact (irow_new _ _ shaH0 _ rfl).alloc _
theorem step_append_none {P : Program} {w : World} {ops : Array Oper} {o : Oper} {a : Act} {K : Act → World → Prop} {Q : Exit → Act → World → Prop} {E : Prop}
    (hg : o.guard = none) (s x : Operand) (t : TypeId) (ho : o.op = Op.call { callee := Callee.builtin Builtin.append, args := #[s, x], argTypes := #[t, t] })
    (base : Nat) (e : TypeId) (i : TypeInfo) (size : Nat) (ht : P.underlying t = some (.slice e)) (hi : P.info? e = some i)
    (v : Value) (n : Nat) (xs : List Value) (hs : a.eval s = v) (hown : w.ownsRow base e size v n xs) (hx : a.eval x = .slice none 0 0)
    (hK : K (a.put o.dst v) w) : if Region.wanted o (yielded ops a.tmps) = true then Oper.wp P o a w K Q else E := by
  rw [if_pos (by simp [Region.wanted, hg])]
  have hrun := run_append_owned_none (P := P) (w := w) base t o.type e i size ht hi v n xs hown
  unfold Oper.wp
  simp [execOp, ho, resolve, invoke, builtin, hs, hx, hrun, Result.andThen]
  exact hK
theorem info_u8' : (Tryd.prog.info? 5).map (fun i => (i.zero, i.size, i.bytes)) = some (some (.int .u8 0), 1, 1) := by kernel_rfl
set_option maxRecDepth 100000 in
set_option maxHeartbeats 1000000 in
theorem copy_any (base D hb q : Nat) (xs done rest : List UInt8) (rv : Value) (w : World) (hD : DigAt base D hb w xs q done rest rv) :
    Calls Tryd.prog 71 #[.pointer (some ⟨D, 0, none⟩)] w fun ev w' => ∃ D' hb' rv', ev = .returned (.pointer (some ⟨D', 0, none⟩)) ∧ DigAt w.heap.size D' hb' w' xs q done rest rv' ∧ Below w.heap.size w w' := by
  have d0 := hD.dg.c0
  have d1 := hD.dg.c1
  have d2 := hD.dg.c2
  have hDlt := hD.dg.lt.1
  have hHlt := hD.dg.lt.2
  have HDD := Lib.hid hD
  obtain ⟨nx, hnx⟩ : ∃ nx : Int, (xs.length : Int) = nx := ⟨_, rfl⟩
  rw [hnx] at d2
  have HNX := Lib.hid hnx
  obtain ⟨hv, hhv⟩ : ∃ hv, ((blks q shaH0 done).map (Value.int .u32)).toArray = hv := ⟨_, rfl⟩
  have HQ : Hid (w.heap[hb]? = some (.cells hv 131 (0, 0))) := Lib.hid (by rw [← hhv]; exact hD.dg.words)
  have HS : Hid (hv.size = 8) := Lib.hid (by rw [← hhv]; simp [blks_length _ _ _ (show shaH0.length = 8 from rfl)])
  have HO : Hid (hv.all (·.oneCell') = true) := Lib.hid (by rw [← hhv]; exact all_oneCell_toArray (by intro u hu; simp only [List.mem_map] at hu; obtain ⟨x, _, rfl⟩ := hu; rfl))
  have HI : Hid ((Tryd.prog.info? 131).map (·.size) = some hv.size) := Lib.hid (by rw [HS.out]; kernel_rfl)
  have HHV := Lib.hid hhv
  obtain ⟨i0, hi, hz0, hz1, hz2⟩ := info_parts info_u8'
  clear hD hnx hhv
  go_enter Tryd.func71, Tryd.ntmps71
  go_wp2_with (first | (refine wpList_load_row rfl 131 _ rfl hb rfl 131 hv (0, 0) _ HQ.out Tryd.underlying131 rfl HI.out ?_) | (refine wpList_store_row rfl 131 _ _ rfl w.heap.size hv rfl rfl 131 _ (heap_alloc_new _ _) HI.out (by rw [HS.out]; rfl) HO.out ?_))
  obtain ⟨wA, hwA⟩ : ∃ wA, (w.alloc (.cells (List.replicate 8 (Value.int .u32 0)).toArray 131)).setRow w.heap.size hv = wA := ⟨_, rfl⟩
  have HIR : Hid (IRow wA w.heap.size .u32 131 (blks q shaH0 done)) := Lib.hid (by rw [← hwA]; unfold IRow; rw [HHV.out]; exact setRow_heap _ _ _ _ _ _ (heap_alloc_new _ _))
  have HBl : Hid (Below w.heap.size w wA) := Lib.hid (by rw [← hwA]; exact below_setRow ((Below.refl _ w).alloc (Nat.le_refl _) _) _ _ (Nat.le_refl _))
  have hsA : wA.heap.size = w.heap.size + 1 := by rw [← hwA]; simp
  simp only [List.replicate, List.toArray] at hwA
  show Code.wp _ _ _ _ _
  rw [hwA]
  have a1 := cell_below HBl.out d1 hDlt
  have a2 := cell_below HBl.out d2 hDlt
  have HSA := Lib.hid hsA
  clear hwA d0 d1 d2 hsA
  have HOw := Lib.hid (own_below HDD.out.own HBl.out (Nat.le_refl _))
  rcases HDD.out.own.2 with ⟨rfl, hn0⟩ | ⟨g, rcap, cur, rfl, hg⟩
  · obtain rfl := List.eq_nil_of_length_eq_zero hn0
    go_region_held3 (fun w' => w'.cell? ⟨D, 1, none⟩ = some (.slice none 0 0) ∧ w'.cell? ⟨D, 2, none⟩ = some (.int .u64 nx)) (go_keep)
      (refine step_append_none (by rfl) (.const (.slice none 0 0)) (.tmp 22) 77 (by rfl) 0 5 i0 1 Tryd.underlying77 hi (.slice none 0 0) 0 [] (by rfl) (World.ownsRow_nil _ _ _ _) (by rfl) ?_)
    go_wp2
    go_ret
    have hs := HSA.out
    have hB := ((HBl.out).alloc (by omega) (.cells #[.pointer (some ⟨w.heap.size, 0, none⟩), .slice none 0 0, .int .u64 nx] 133)).drew
    have hI := HIR.out.alloc (.cells #[.pointer (some ⟨w.heap.size, 0, none⟩), .slice none 0 0, .int .u64 nx] 133)
    refine ⟨wA.heap.size, w.heap.size, .slice none 0 0, rfl, ⟨HDD.out.all, HDD.out.len, by simp, ⟨?_, hI, by omega⟩, World.ownsRow_nil _ _ _ _, ⟨by simp [Value.ownBlock], by simp [Value.ownBlock]⟩, by omega, Nat.le_refl _⟩, hB⟩
    rw [HNX.out]
    exact heap_alloc_new wA _
  · clear hg
    go_region_held3 (fun w' => w'.cell? ⟨D, 1, none⟩ = some (.slice (some ⟨g, 0, none⟩) rest.length rcap) ∧ w'.cell? ⟨D, 2, none⟩ = some (.int .u64 nx)) (first | exact KK | go_keep)
      ((refine step_append_shape (by rfl) (.const (.slice none 0 0)) (.tmp 22) 77 (by rfl) w.heap.size 5 i0 (.int .u8 0) 1 1 Tryd.underlying77 hi hz0 hz1 hz2 rfl (by decide) (.slice none 0 0) 0 [] (by rfl) (World.ownsRow_nil _ _ _ _) ⟨g, 0, none⟩ rest.length rcap (bytesV rest) (by rfl) (by rw [bytesV_length]; omega) (fun j u hu => (own_drew HOw.out).cells (g := g) rfl j u hu) (bytesV_one _) (by have := HDD.out.short; unfold maxLen; omega) (by have := HDD.out.short; omega) (by have := HSA.out; simp; omega) ?_; intro A2 cap2 w3 hown3 hgrow3 hat3; have KK := And.intro (cell_grown hgrow3 a1 (by simp [Value.ownBlock])) (cell_grown hgrow3 a2 (by simp [Value.ownBlock]))))
    go_wp2
    go_ret
    have hs := HSA.out
    have h3s := hgrow3.size
    simp at h3s
    have hB3 : Below w.heap.size w w3 := (HBl.out.drew).grown hgrow3 (by simp; omega) (fun k hk => by simp [Value.ownBlock] at hk)
    have hB := hB3.alloc (by omega) (.cells #[.pointer (some ⟨w.heap.size, 0, none⟩), .slice A2 rest.length cap2, .int .u64 nx] 133)
    have hI3 : IRow w3 w.heap.size .u32 131 (blks q shaH0 done) := HIR.out.block (hgrow3.block _ (by simp; omega) (by simp [Value.ownBlock]))
    have hI := hI3.alloc (.cells #[.pointer (some ⟨w.heap.size, 0, none⟩), .slice A2 rest.length cap2, .int .u64 nx] 133)
    rw [Nat.zero_add, List.nil_append] at hown3
    have hlt := hown3.lt
    rw [Nat.zero_add] at hat3
    have hat : (Value.slice A2 rest.length cap2).ownBlock = none ∨ (Value.slice A2 rest.length cap2).ownBlock = some wA.heap.size := by simpa [Value.ownBlock] using hat3
    refine ⟨w3.heap.size, w.heap.size, .slice A2 rest.length cap2, rfl, ⟨HDD.out.all, HDD.out.len, HDD.out.short, ⟨?_, hI, by omega⟩, own_below hown3 ((Below.refl _ _).alloc (Nat.le_refl _) _) (Nat.le_refl _), ⟨fun q => ?_, fun q => ?_⟩, by omega, Nat.le_refl _⟩, hB⟩
    · rw [HNX.out]
      exact heap_alloc_new w3 _
    · have := (hlt _ q).2; omega
    · rcases hat with h | h
      · rw [h] at q; cases q
      · rw [h] at q; injection q with q; omega
end Go.Proofs.YtnpblpbcchminaaDoor
