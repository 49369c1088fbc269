import Derived.Test.YtnpblpbcchminaaGreatDoorKbLogPlain
import Derived.Test.YtnpblpbcchminaaGreatDoorKbSameHashes
import Derived.Deep.MidRow
import Derived.BigRegion
import Derived.Deep.DeepCutAuto
/- Plain facts on a path folded from below, step by step. No program in sight. -/
namespace Go.Proofs.YtnpblpbcchminaaGreatDoor
open Go.ChangeShapes Go.WideShapes Go.ChangeAt Go.RowKit
set_option linter.unusedVariables false
section
variable {α : Type} (node : α → α → α)
/-- from the node n of a level whose last is l, with h in hand, the hashes ps say r -/
def Says (n l : Nat) (h : α) (ps : List α) (r : α) : Prop := ∃ f, l + 1 ≤ 2 ^ f ∧ bot node (f + 1) n (l + 1) h ps = some r
theorem Says.end {n : Nat} {h r : α} {ps : List α} (hs : Says node n 0 h ps r) : ps = [] ∧ r = h := by
  obtain ⟨f, _, hb⟩ := hs
  rw [bot_one node (by omega)] at hb
  cases ps with
  | nil => simp at hb; exact ⟨rfl, hb.symm⟩
  | cons p q => simp at hb
theorem Says.fuel {n l : Nat} {h r : α} {ps : List α} (hs : Says node n l h ps r) (hl : 0 < l) : ∃ f, l + 1 ≤ 2 ^ (f + 1) ∧ bot node (f + 1 + 1) n (l + 1) h ps = some r := by
  obtain ⟨f, hf, hb⟩ := hs
  cases f with
  | zero => simp at hf; omega
  | succ f => exact ⟨f, hf, hb⟩
theorem Says.lone {n : Nat} {h r : α} {ps : List α} (hs : Says node n n h ps r) (hn : 0 < n) (he : n % 2 = 0) : Says node (n / 2) (n / 2) h ps r := by
  obtain ⟨f, hf, hb⟩ := hs.fuel node hn
  rw [Nat.pow_succ] at hf
  rw [bot_last node (by omega) ⟨he, by omega⟩, show (n + 1 + 1) / 2 = n / 2 + 1 by omega] at hb
  exact ⟨f, by omega, hb⟩
theorem Says.odd {n l : Nat} {h r p : α} {ps : List α} (hs : Says node n l h (p :: ps) r) (hl : 0 < l) (ho : n % 2 = 1) : Says node (n / 2) (l / 2) (node p h) ps r := by
  obtain ⟨f, hf, hb⟩ := hs.fuel node hl
  rw [Nat.pow_succ] at hf
  rw [bot_odd node (by omega) ho, show (l + 1 + 1) / 2 = l / 2 + 1 by omega] at hb
  exact ⟨f, by omega, hb⟩
theorem Says.even {n l : Nat} {h r p : α} {ps : List α} (hs : Says node n l h (p :: ps) r) (hl : 0 < l) (he : n % 2 = 0) (hn : n ≠ l) : Says node (n / 2) (l / 2) (node h p) ps r := by
  obtain ⟨f, hf, hb⟩ := hs.fuel node hl
  rw [Nat.pow_succ] at hf
  rw [bot_even node (by omega) he (by omega), show (l + 1 + 1) / 2 = l / 2 + 1 by omega] at hb
  exact ⟨f, by omega, hb⟩
theorem Says.nil : ∀ {l n : Nat} {h r : α}, Says node n l h [] r → n ≤ l → l = 0 ∧ r = h := by
  intro l
  induction l using Nat.strongRecOn with
  | ind l ih =>
    intro n h r hs hn
    by_cases hl : l = 0
    · subst hl; exact ⟨rfl, (hs.end node).2⟩
    · exfalso
      by_cases hq : n % 2 = 0 ∧ n = l
      · obtain ⟨he, rfl⟩ := hq
        have := ih (n / 2) (by omega) (hs.lone node (by omega) he) (Nat.le_refl _)
        omega
      · obtain ⟨f, hf, hb⟩ := hs.fuel node (by omega)
        rw [bot_nil node (by omega) (by omega)] at hb
        cases hb
/-- so many levels up -/
theorem Says.up {n : Nat} {h r : α} {ps : List α} (hs : Says node n n h ps r) : ∀ k, (∀ j, j < k → n / 2 ^ j % 2 = 0 ∧ n / 2 ^ j ≠ 0) → Says node (n / 2 ^ k) (n / 2 ^ k) h ps r
  | 0, _ => by simpa using hs
  | k + 1, hk => by
    have ih := Says.up hs k (fun j hj => hk j (by omega))
    have h1 := hk k (by omega)
    have := ih.lone node (Nat.pos_of_ne_zero h1.2) h1.1
    rwa [Nat.div_div_eq_div_mul, ← Nat.pow_succ] at this
end
end Go.Proofs.YtnpblpbcchminaaGreatDoor

/- verify.up; verify.Root and Inclusion where the path says a root. Condition: the package-level variables read as listed. -/
namespace Go.Proofs.YtnpblpbcchminaaGreatDoor
open Go.ChangeShapes Go.WideShapes Go.ChangeAt Go.RowKit
set_option linter.unusedVariables false
theorem and_one (n : Nat) (h : n < 18446744073709551616) : bits .and .u64 (n : Int) 1 = ((n % 2 : Nat) : Int) := by
  rw [show (1 : Int) = ((1 : Nat) : Int) from rfl, and_u64 n 1 h (by omega), Nat.and_one_is_mod]
def UpPost (n l : Nat) (w : World) (e : Ending) (w' : World) : Prop := ∃ k, e = .returned (.tuple #[.int .u64 (n / 2 ^ k : Nat), .int .u64 (l / 2 ^ k : Nat)]) ∧ (n / 2 ^ k % 2 = 1 ∨ n / 2 ^ k = 0) ∧ (∀ j, j < k → n / 2 ^ j % 2 = 0 ∧ n / 2 ^ j ≠ 0) ∧ w = w'
set_option maxRecDepth 100000 in
theorem up_any (n l : Nat) (w : World) (hn : n < 18446744073709551616) (hl : l < 18446744073709551616) :
    Calls Tryz.prog 188 #[.int .u64 n, .int .u64 l] w (UpPost n l w) := by
  go_enter Tryz.func188, Tryz.ntmps188
  go_wp2
  go_loop [0, 1] (fun a b => ∃ k x y : Nat, a = .int .u64 x ∧ b = .int .u64 y ∧ x < 18446744073709551616 ∧ y < 18446744073709551616 ∧ Hid (x = n / 2 ^ k ∧ y = l / 2 ^ k ∧ ∀ j, j < k → n / 2 ^ j % 2 = 0 ∧ n / 2 ^ j ≠ 0)) (fun a _ => (intOf a).toNat)
  case atStart => exact ⟨0, n, l, rfl, rfl, hn, hl, Lib.hid ⟨by simp, by simp, fun j h => by omega⟩⟩
  case round =>
    obtain ⟨k, x, y, rfl, rfl, hx, hy, HX⟩ := hrel
    have ha := and_one x hx
    by_cases ho : x % 2 = 1
    · have h1 : (bits .and .u64 (x : Int) 1 == 0) = false := by rw [ha, ho]; rfl
      have HO := Lib.hid ho
      clear ha ho
      go_wp2
      refine bodyPost_ret (v := .tuple #[.int .u64 x, .int .u64 y]) (by simp [results, Tryz.results188, go_sem]) rfl ⟨k, by rw [← HX.out.1, ← HX.out.2.1], .inl (by rw [← HX.out.1]; exact HO.out), HX.out.2.2, rfl⟩
    · have h1 : (bits .and .u64 (x : Int) 1 == 0) = true := by rw [ha]; simp; omega
      by_cases hz : x = 0
      · have h2 : ((x : Int) != 0) = false := by simp; omega
        have HO := Lib.hid hz
        clear ha ho hz
        go_wp2
        refine bodyPost_ret (v := .tuple #[.int .u64 x, .int .u64 y]) (by simp [results, Tryz.results188, go_sem]) rfl ⟨k, by rw [← HX.out.1, ← HX.out.2.1], .inr (by rw [← HX.out.1]; exact HO.out), HX.out.2.2, rfl⟩
      · have h2 : ((x : Int) != 0) = true := by simp; omega
        have HO := Lib.hid (And.intro (show x % 2 = 0 by omega) hz)
        have hx2 : x / 2 < x := by omega
        clear ha ho hz
        go_wp2
        go_round
        case rel => exact ⟨k + 1, x / 2, y / 2, by go_num, by go_num, by omega, by omega, Lib.hid ⟨by rw [HX.out.1, Nat.div_div_eq_div_mul, ← Nat.pow_succ], by rw [HX.out.2.1, Nat.div_div_eq_div_mul, ← Nat.pow_succ], fun j hj => by
          by_cases e : j = k
          · subst e; rw [← HX.out.1]; exact HO.out
          · exact HX.out.2.2 j (by omega)⟩⟩
        case measure => simp [intOf]; omega
theorem up_odd (n l : Nat) (w : World) (hn : n < 18446744073709551616) (hl : l < 18446744073709551616) (ho : n % 2 = 1) :
    Calls Tryz.prog 188 #[.int .u64 n, .int .u64 l] w fun e w' => e = .returned (.tuple #[.int .u64 n, .int .u64 l]) ∧ w = w' :=
  (up_any n l w hn hl).mono (fun e w' ⟨k, he, _, hj, hw⟩ => by
    cases k with
    | zero => exact ⟨by simpa using he, hw⟩
    | succ k => have := hj 0 (by omega); simp at this; omega)
def LonePost (n : Nat) (w : World) (e : Ending) (w' : World) : Prop := ∃ z : Nat, e = .returned (.tuple #[.int .u64 z, .int .u64 z]) ∧ z % 2 = 1 ∧ z ≤ n ∧ (∀ h ps r, Says nodeH n n h ps r → Says nodeH z z h ps r) ∧ w = w'
theorem up_lone (n : Nat) (w : World) (hn : n < 18446744073709551616) (h0 : 0 < n) : Calls Tryz.prog 188 #[.int .u64 n, .int .u64 n] w (LonePost n w) :=
  (up_any n n w hn hn).mono (fun e w' ⟨k, he, ho, hj, hw⟩ => by
    refine ⟨n / 2 ^ k, he, ?_, Nat.div_le_self _ _, fun h ps r hs => hs.up nodeH k hj, hw⟩
    rcases ho with q | q
    · exact q
    · exfalso
      cases k with
      | zero => simp at q; omega
      | succ k =>
        have h1 := hj k (by omega)
        have h2 : n / 2 ^ (k + 1) = n / 2 ^ k / 2 := by rw [Nat.div_div_eq_div_mul, ← Nat.pow_succ]
        rw [h2] at q
        obtain ⟨y, hy⟩ : ∃ y, n / 2 ^ k = y := ⟨_, rfl⟩
        rw [hy] at h1 q
        omega)
end Go.Proofs.YtnpblpbcchminaaGreatDoor

/- verify.Root where the path says a root. Condition: the package-level variables read as listed. -/
namespace Go.Proofs.YtnpblpbcchminaaGreatDoor
open Go.ChangeShapes Go.WideShapes Go.ChangeAt Go.RowKit
set_option linter.unusedVariables false
set_option maxRecDepth 100000 in
set_option maxHeartbeats 8000000 in
theorem vroot_ok (a : Nat → Addr) (B : Nat) (ix sz : Nat) (h : List UInt8) (ps : List (List UInt8)) (r : List UInt8) (A : Option Addr) (m c : Nat) (w : World) (hE : Env B a w) (hh : h.length = 32) (hp : HIn w A m c ps) (h1 : ix < sz) (h2 : sz ≤ 9223372036854775808) (hs : Says nodeH ix (sz - 1) h ps r) (hm9 : m ≤ 1000000000) :
    Calls Tryz.prog 125 #[.int .u64 ix, .int .u64 sz, hv h, .slice A m c] w fun e w' => e = .returned (.tuple #[hv r, .nilIface]) ∧ r.length = 32 ∧ Below w.heap.size w w' := by
  have HE := Lib.hid hE
  have HP := Lib.hid hp
  have HML := Lib.hid hp.2.1
  have HNODE := Lib.hid (fun x y w h1 h2 hE => hnode_any x y w h1 h2 (Env.tab (B := B) (a := a) hE))
  have HSAY := Lib.hid hs
  obtain ⟨vh, evh, Hvh, Zvh, Ivh, Ovh⟩ := row_of h hh
  rw [evh]
  have HH := Lib.hid (And.intro hh evh)
  obtain ⟨vz, ez, Hvz, Zvz, Ivz, Ovz⟩ := row_of zeroH zeroH_length
  have HVZ : Hid (vz = (List.replicate 32 (Value.int .u8 0)).toArray) := Lib.hid (by rw [zeroH_v] at ez; cases ez; rfl)
  have hWB : Below w.heap.size w ((w.alloc (.cells vh 23)).alloc (.cells (List.replicate 32 (Value.int .u8 0)).toArray 23)) := ((Below.refl _ _).alloc (Nat.le_refl _) _).alloc (by simp) _
  have hR6 : ((w.alloc (.cells vh 23)).alloc (.cells (List.replicate 32 (Value.int .u8 0)).toArray 23)).heap[w.heap.size]? = some (.cells vh 23 (0, 0)) := by
    rw [((Below.refl _ (w.alloc (.cells vh 23))).alloc (Nat.le_refl _) _).block w.heap.size (by simp)]; exact heap_at _ _ _ rfl
  have hR8 : ((w.alloc (.cells vh 23)).alloc (.cells (List.replicate 32 (Value.int .u8 0)).toArray 23)).heap[w.heap.size + 1]? = some (.cells (List.replicate 32 (Value.int .u8 0)).toArray 23 (0, 0)) := heap_at _ _ _ (by simp)
  have hsw : ((w.alloc (.cells vh 23)).alloc (.cells (List.replicate 32 (Value.int .u8 0)).toArray 23)).heap.size = w.heap.size + 2 := by simp
  obtain ⟨wv, hwv⟩ : ∃ wv, (w.alloc (.cells vh 23)).alloc (.cells (List.replicate 32 (Value.int .u8 0)).toArray 23) = wv := ⟨_, rfl⟩
  rw [hwv] at hWB hR6 hR8 hsw
  have HWV := Lib.hid hwv
  simp only [List.replicate, List.toArray] at HWV
  have HR6 := Lib.hid hR6
  have HR8 := Lib.hid hR8
  have HSW := Lib.hid hsw
  have HWB := Lib.hid hWB
  have hd1 : decide ((9223372036854775808 : Int) < (sz : Int)) = false := by simp; omega
  have hd2 : decide ((sz : Int) ≤ (ix : Int)) = false := by simp; omega
  have hsz1 : (1 : Int) ≤ sz := by omega
  have HWR : Hid (IntKind.u64.wrap ((sz : Int) - 1) = (sz : Int) - 1) := Lib.hid (by exact IntWalk.u64_in _ (by omega))
  clear hE hp hs evh ez hwv hR6 hR8 hsw hWB
  go_enter Tryz.func125, Tryz.ntmps125
  go_upto_region 1 with fail
  rw [HWV.out]
  go_upto_region 3 with fail
  have gv : Below w.heap.size w wv := HWB.out
  have hsv : w.heap.size + 2 ≤ wv.heap.size := by have := HSW.out; omega
  have KV : Hid (∀ w', Gr wv w' → w'.heap[w.heap.size]? = some (.cells vh 23 (0, 0))) := Lib.hid (fun w' h => (h.block _ (by omega)).trans HR6.out)
  refine wp_region_held_drew (S := Gr wv) (by kernel_rfl) ((Gr.refl _).drew) (fun hHeld => ?_)
  refine tk (i := 0) (v := ?v1) rfl ?y1 ?r1
  case y1 => (intro w hSw; (try dsimp only at hSw); go_simp; (try with_reducible rfl))
  try simp only [pu]
  refine tk (i := 1) (v := ?v2) rfl ?y2 ?r2
  case y2 => (intro w hSw; (try dsimp only at hSw); go_simp; (try with_reducible rfl))
  try simp only [pu]
  refine tw (i := 2) rfl (yieldsIf_load_row (by rfl) 23 _ (by rfl) _ (by rfl) 23 vh (0, 0) _ (fun w h => KV.out w h) Tryz.underlying23 rfl Ivh.out) ?_
  try simp only [pu]
  refine wpAnyH_ready (rs := [3]) (by kernel_rfl) (by simp) ?_
  refine AllReadyH.cons (i := 3) rfl (fun K2 hK2 => ?_) AllReadyH.nil
  go_simp
  obtain ⟨wa, hwa⟩ : ∃ x, (wv.alloc (.cells (List.replicate 32 (Value.int .u8 0)).toArray 23)).drew = x := ⟨_, rfl⟩
  have ba : Below wv.heap.size wv wa := by rw [← hwa]; exact ((Below.refl _ wv).alloc (Nat.le_refl _) _).drew
  have Ra : Hid (wa.heap[wv.heap.size]? = some (.cells (List.replicate 32 (Value.int .u8 0)).toArray 23 (0, 0))) := Lib.hid (by rw [← hwa]; exact heap_at wv _ _ rfl)
  have hsa : wv.heap.size + 1 ≤ wa.heap.size := by rw [← hwa]; simp
  simp only [List.replicate] at hwa
  rw [hwa]
  clear hwa
  refine hK2.out _ _ (show Gr wv _ from (by repeat (first | exact Gr.refl _ | (refine Gr.step ?_ (by assumption)) | (refine Gr.alloc ?_ _) | (refine Gr.drew ?_)))) (fun hHeld2 => ?_)
  clear hK2 K2
  try simp only [pu]
  refine tk (i := 4) (v := ?v4) rfl ?y4 ?r4
  case y4 => (intro w hSw; (try dsimp only at hSw); go_simp; (try with_reducible rfl))
  try simp only [pu]
  refine wpAnyH_ready (rs := [5]) (by kernel_rfl) (by simp) ?_
  refine AllReadyH.cons (i := 5) rfl (fun K2 hK2 => ?_) AllReadyH.nil
  rw [if_pos (by rfl)]
  refine wp_store_row 23 _ _ rfl wv.heap.size vh rfl rfl 23 _ Ra.out Ivh.out (by rw [Zvh.out]; simp) Ovh.out ?_
  refine hK2.out _ _ (show Gr wv _ from below_setRow (show Gr wv wa from (by repeat (first | exact Gr.refl _ | (refine Gr.step ?_ (by assumption)) | (refine Gr.alloc ?_ _) | (refine Gr.drew ?_)))) _ _ (Nat.le_refl _)) (fun hHeld2 => ?_)
  clear hK2 K2
  try simp only [pu]
  refine wpAnyH_done (by kernel_rfl) ?_ _
  have HBL : Hid (Below w.heap.size w (wa.setRow wv.heap.size vh)) := Lib.hid (below_setRow (show Gr w wa from (by repeat (first | exact Gr.refl _ | (refine Gr.step ?_ (by assumption)) | (refine Gr.alloc ?_ _) | (refine Gr.drew ?_)))) _ _ (by omega))
  have HRL : Hid ((wa.setRow wv.heap.size vh).heap[wv.heap.size]? = some (.cells vh 23 (0, 0))) := Lib.hid (setRow_heap _ _ _ _ _ _ Ra.out)
  have HR8L : Hid ((wa.setRow wv.heap.size vh).heap[w.heap.size + 1]? = some (.cells (List.replicate 32 (Value.int .u8 0)).toArray 23 (0, 0))) := Lib.hid (by
    rw [setRow_other _ _ _ _ (by omega)]; exact (ba.block _ (by omega)).trans HR8.out)
  have hsL : wv.heap.size + 1 ≤ (wa.setRow wv.heap.size vh).heap.size := by simp; omega
  obtain ⟨wL, hwL⟩ : ∃ x, wa.setRow wv.heap.size vh = x := ⟨_, rfl⟩
  rw [hwL] at HBL HRL HR8L hsL ⊢
  rw [HWR.out]
  clear hwL ba Ra hsa gv
  go_wp2_with fail
  go_loopw [0, 10, 28] (fun n l i wr => ∃ (k x y : Nat) (cur : List UInt8), k ≤ m ∧ i = .int .i64 k ∧ n = .int .u64 x ∧ l = .int .u64 y ∧ x ≤ y ∧ y < 9223372036854775808 ∧ Hid (cur.length = 32 ∧ Says nodeH x y cur (ps.drop k) r) ∧ Hid (wr.heap[wv.heap.size]? = some (.cells (bytesV cur).toArray 23 (0, 0))) ∧ Hid (wr.heap[w.heap.size + 1]? = some (.cells (List.replicate 32 (Value.int .u8 0)).toArray 23 (0, 0))) ∧ Hid (Below w.heap.size w wr) ∧ wv.heap.size + 1 ≤ wr.heap.size) (fun _ _ i _ => m - (intOf i).toNat)
  case atStart => exact ⟨0, ix, sz - 1, h, Nat.zero_le _, rfl, rfl, by go_num, by omega, by omega, Lib.hid ⟨HH.out.1, HSAY.out⟩, Lib.hid (by rw [Hvh.out]; exact HRL.out), HR8L, HBL, hsL⟩
  case round =>
    obtain ⟨k, x, y, cur, hk, rfl, rfl, rfl, hxy, hy9, HC, R11, R8, HB, hsr⟩ := hrel
    obtain ⟨vc, evc, Hvc, Zvc, Ivc, Ovc⟩ := row_of cur HC.out.1
    rw [Hvc.out] at R11
    have EVC := Lib.hid evc
    clear evc
    by_cases hlt : k < m
    · obtain ⟨p, hp⟩ : ∃ p, ps[k]? = some p := ⟨_, List.getElem?_eq_getElem (by have := HML.out; omega)⟩
      have HDR : Hid (ps.drop k = p :: ps.drop (k + 1)) := Lib.hid (by
        have hkl : k < ps.length := by have := HML.out; omega
        rw [List.drop_eq_getElem_cons hkl]; congr 1
        rw [List.getElem?_eq_getElem hkl] at hp; exact Option.some.inj hp)
      obtain ⟨g, o, rfl, gl, rp, pl⟩ := HP.out.row hp
      obtain ⟨vp, evp, Hvp, Zvp, Ivp, Ovp⟩ := row_of p pl
      have EVP := Lib.hid evp
      have HPL := Lib.hid pl
      obtain ⟨pp, hpp⟩ : ∃ q, bytesV p = q := ⟨_, rfl⟩
      have HPV : Hid (pp.toArray = vp) := Lib.hid (by rw [← hpp]; exact Hvp.out)
      have HIP : Hid ((Tryz.prog.info? 23).map (·.size) = some pp.length) := Lib.hid (by rw [← hpp, bytesV_length, pl]; kernel_rfl)
      have HR : Hid (wr.rangeAt g (o + k * 32) pp) := Lib.hid (by rw [← hpp]; exact rangeAt_below HB.out rp gl)
      have i0 : (0 : Int) ≤ k := by omega
      have i1 : (k : Int) < m := by omega
      have hy0 : y ≠ 0 := fun e => by
        subst e
        have := (HC.out.2.end nodeH).1
        rw [HDR.out] at this; cases this
      have hyb : ((y : Int) == 0) = false := by simp; omega
      have hsb := HB.out.size
      have SC : Hid (Says nodeH x y cur (p :: ps.drop (k + 1)) r) := Lib.hid (by have := HC.out.2; rwa [HDR.out] at this)
      have ha := and_one x (by omega)
      have hx9 : (x : Int) < 18446744073709551616 := by omega
      have hy9' : (y : Int) < 18446744073709551616 := by omega
      clear hp evp pl hpp rp gl
      by_cases ho : x % 2 = 1
      · have t1 : (bits .and .u64 (x : Int) 1 == 1) = true := by rw [ha, ho]; rfl
        have SN : Hid (Says nodeH (x / 2) (y / 2) (nodeH p cur) (ps.drop (k + 1)) r) := Lib.hid (SC.out.odd nodeH (by omega) ho)
        have HUP := Lib.hid (fun w => up_odd x y w (by omega) (by omega) ho)
        clear ha ho
        obtain ⟨vn, evn, Hvn, Zvn, Ivn, Ovn⟩ := row_of (nodeH p cur) (nodeH_length _ _)
        have HN : Hid (∀ w, Env B a w → Calls Tryz.prog 46 #[.agg vp, .agg vc] w fun ev w' => ev = .returned (.agg vn) ∧ Below w.heap.size w w') := Lib.hid (fun w h => by
          have := HNODE.out _ _ w HPL.out HC.out.1 h
          rw [EVP.out, EVC.out, evn] at this; exact this)
        clear evn
        go_upto_region 9 with (first
          | (refine wpList_load_mid rfl 23 _ rfl g (o + k * 32) rfl pp _ HR.out Tryz.underlying23 rfl HIP.out ?_; rw [HPV.out])
          | (refine wpList_store_row_any rfl 23 _ _ rfl wr.heap.size vp rfl rfl 23 _ (heap_at _ _ _ rfl) Ivp.out (by rw [Zvp.out]; rfl) Ovp.out ?_; intro w3 hbN hgN hsN; have b3 : Below wr.heap.size wr w3 := ((Below.refl _ wr).alloc (Nat.le_refl _) _).trans (hbN.to_below (by simp) (fun k hk q => by omega)); have R13 := Lib.hid hgN; clear hbN hgN hsN))
        have R11b : Hid (w3.heap[wv.heap.size]? = some (.cells vc 23 (0, 0))) := Lib.hid ((b3.block _ (by omega)).trans R11.out)
        go_wp2_with (first | (refine wpList_load_row rfl 23 _ rfl wr.heap.size rfl 23 vp (0, 0) _ R13.out Tryz.underlying23 rfl Ivp.out ?_) | (refine wpList_load_row rfl 23 _ rfl wv.heap.size rfl 23 vc (0, 0) _ R11b.out Tryz.underlying23 rfl Ivc.out ?_))
        refine (HN.out w3 (HE.out.step (HB.out.trans (b3.mono HB.out.size)))).mono ?_
        rintro ev w4 ⟨rfl, b4⟩
        have R11c : Hid (w4.heap[wv.heap.size]? = some (.cells vc 23 (0, 0))) := Lib.hid ((b4.block _ (Array.getElem?_eq_some_iff.1 R11b.out).1).trans R11b.out)
        have b14 : Below wr.heap.size wr w4 := b3.trans (b4.mono b3.size)
        have R8c : Hid (w4.heap[w.heap.size + 1]? = some (.cells (List.replicate 32 (Value.int .u8 0)).toArray 23 (0, 0))) := Lib.hid ((b14.block _ (by omega)).trans R8.out)
        have hsz4 := b14.size
        go_upto_region 11 with (refine wpList_store_row_any rfl 23 _ _ rfl wv.heap.size vn rfl rfl 23 _ R11c.out Ivn.out (by rw [Zvc.out, Zvn.out]) Ovn.out ?_; intro w5 hbN hgN hsN; have R11d := Lib.hid hgN; have B5 := Lib.hid (And.intro hbN hsN); clear hbN hgN hsN)
        go_wp2_with fail
        refine (HUP.out w5).mono ?_
        rintro ev w6 ⟨rfl, rfl⟩
        go_wp2
        go_roundw
        case rel => exact ⟨k + 1, x / 2, y / 2, nodeH p cur, by omega, by go_num, by go_num, by go_num, by omega, by omega, Lib.hid ⟨nodeH_length _ _, SN.out⟩, Lib.hid (by rw [show (bytesV (nodeH p cur)).toArray = vn from Hvn.out]; exact R11d.out), Lib.hid ((B5.out.1.same _ (by omega) (by omega)).trans R8c.out), Lib.hid ((HB.out.trans (b14.mono HB.out.size)).trans (B5.out.1.to_below (by omega) (fun k hk q => by omega))), by have := B5.out.2; omega⟩
        case measure => simp [intOf]; omega
      · have t1 : (bits .and .u64 (x : Int) 1 == 1) = false := by rw [ha]; simp; omega
        have he : x % 2 = 0 := by omega
        by_cases hxe : x = y
        · subst hxe
          have t2 : ((x : Int) == (x : Int)) = true := by simp
          have HUP := Lib.hid (fun w => up_lone x w (by omega) (by omega))
          clear ha ho he
          obtain ⟨vn, evn, Hvn, Zvn, Ivn, Ovn⟩ := row_of (nodeH p cur) (nodeH_length _ _)
          have HN : Hid (∀ w, Env B a w → Calls Tryz.prog 46 #[.agg vp, .agg vc] w fun ev w' => ev = .returned (.agg vn) ∧ Below w.heap.size w w') := Lib.hid (fun w h => by
            have := HNODE.out _ _ w HPL.out HC.out.1 h
            rw [EVP.out, EVC.out, evn] at this; exact this)
          clear evn
          go_upto_region 9 with (first
            | (refine wpList_load_mid rfl 23 _ rfl g (o + k * 32) rfl pp _ HR.out Tryz.underlying23 rfl HIP.out ?_; rw [HPV.out])
            | (refine wpList_store_row_any rfl 23 _ _ rfl wr.heap.size vp rfl rfl 23 _ (heap_at _ _ _ rfl) Ivp.out (by rw [Zvp.out]; rfl) Ovp.out ?_; intro w3 hbN hgN hsN; have b3 : Below wr.heap.size wr w3 := ((Below.refl _ wr).alloc (Nat.le_refl _) _).trans (hbN.to_below (by simp) (fun k hk q => by omega)); have R13 := Lib.hid hgN; clear hbN hgN hsN))
          have R11b : Hid (w3.heap[wv.heap.size]? = some (.cells vc 23 (0, 0))) := Lib.hid ((b3.block _ (by omega)).trans R11.out)
          go_wp2_with (first | (refine wpList_load_row rfl 23 _ rfl wr.heap.size rfl 23 vp (0, 0) _ R13.out Tryz.underlying23 rfl Ivp.out ?_) | (refine wpList_load_row rfl 23 _ rfl wv.heap.size rfl 23 vc (0, 0) _ R11b.out Tryz.underlying23 rfl Ivc.out ?_))
          refine (HN.out w3 (HE.out.step (HB.out.trans (b3.mono HB.out.size)))).mono ?_
          rintro ev w4 ⟨rfl, b4⟩
          have R11c : Hid (w4.heap[wv.heap.size]? = some (.cells vc 23 (0, 0))) := Lib.hid ((b4.block _ (Array.getElem?_eq_some_iff.1 R11b.out).1).trans R11b.out)
          have b14 : Below wr.heap.size wr w4 := b3.trans (b4.mono b3.size)
          have R8c : Hid (w4.heap[w.heap.size + 1]? = some (.cells (List.replicate 32 (Value.int .u8 0)).toArray 23 (0, 0))) := Lib.hid ((b14.block _ (by omega)).trans R8.out)
          have hsz4 := b14.size
          go_upto_region 11 with (refine wpList_store_row_any rfl 23 _ _ rfl wv.heap.size vn rfl rfl 23 _ R11c.out Ivn.out (by rw [Zvc.out, Zvn.out]) Ovn.out ?_; intro w5 hbN hgN hsN; have R11d := Lib.hid hgN; have B5 := Lib.hid (And.intro hbN hsN); clear hbN hgN hsN)
          go_wp2_with fail
          refine (HUP.out w5).mono ?_
          rintro ev w6 ⟨z, rfl, hzo, hzx, hzs, rfl⟩
          have SN : Hid (Says nodeH (z / 2) (z / 2) (nodeH p cur) (ps.drop (k + 1)) r) := Lib.hid ((hzs _ _ _ SC.out).odd nodeH (by omega) hzo)
          clear hzo hzs
          go_wp2
          go_roundw
          case rel => exact ⟨k + 1, z / 2, z / 2, nodeH p cur, by omega, by go_num, by go_num, by go_num, by omega, by omega, Lib.hid ⟨nodeH_length _ _, SN.out⟩, Lib.hid (by rw [show (bytesV (nodeH p cur)).toArray = vn from Hvn.out]; exact R11d.out), Lib.hid ((B5.out.1.same _ (by omega) (by omega)).trans R8c.out), Lib.hid ((HB.out.trans (b14.mono HB.out.size)).trans (B5.out.1.to_below (by omega) (fun k hk q => by omega))), by have := B5.out.2; omega⟩
          case measure => simp [intOf]; omega
        · have t2 : ((x : Int) == (y : Int)) = false := by simp; omega
          have SN : Hid (Says nodeH (x / 2) (y / 2) (nodeH cur p) (ps.drop (k + 1)) r) := Lib.hid (SC.out.even nodeH (by omega) he hxe)
          clear ha ho he
          obtain ⟨vn, evn, Hvn, Zvn, Ivn, Ovn⟩ := row_of (nodeH cur p) (nodeH_length _ _)
          have HN : Hid (∀ w, Env B a w → Calls Tryz.prog 46 #[.agg vc, .agg vp] w fun ev w' => ev = .returned (.agg vn) ∧ Below w.heap.size w w') := Lib.hid (fun w h => by
            have := HNODE.out _ _ w HC.out.1 HPL.out h
            rw [EVP.out, EVC.out, evn] at this; exact this)
          clear evn
          go_upto_region 9 with (first
            | (refine wpList_load_mid rfl 23 _ rfl g (o + k * 32) rfl pp _ HR.out Tryz.underlying23 rfl HIP.out ?_; rw [HPV.out])
            | (refine wpList_store_row_any rfl 23 _ _ rfl wr.heap.size vp rfl rfl 23 _ (heap_at _ _ _ rfl) Ivp.out (by rw [Zvp.out]; rfl) Ovp.out ?_; intro w3 hbN hgN hsN; have b3 : Below wr.heap.size wr w3 := ((Below.refl _ wr).alloc (Nat.le_refl _) _).trans (hbN.to_below (by simp) (fun k hk q => by omega)); have R13 := Lib.hid hgN; clear hbN hgN hsN))
          have R11b : Hid (w3.heap[wv.heap.size]? = some (.cells vc 23 (0, 0))) := Lib.hid ((b3.block _ (by omega)).trans R11.out)
          go_wp2_with (first | (refine wpList_load_row rfl 23 _ rfl wr.heap.size rfl 23 vp (0, 0) _ R13.out Tryz.underlying23 rfl Ivp.out ?_) | (refine wpList_load_row rfl 23 _ rfl wv.heap.size rfl 23 vc (0, 0) _ R11b.out Tryz.underlying23 rfl Ivc.out ?_))
          refine (HN.out w3 (HE.out.step (HB.out.trans (b3.mono HB.out.size)))).mono ?_
          rintro ev w4 ⟨rfl, b4⟩
          have R11c : Hid (w4.heap[wv.heap.size]? = some (.cells vc 23 (0, 0))) := Lib.hid ((b4.block _ (Array.getElem?_eq_some_iff.1 R11b.out).1).trans R11b.out)
          have b14 : Below wr.heap.size wr w4 := b3.trans (b4.mono b3.size)
          have R8c : Hid (w4.heap[w.heap.size + 1]? = some (.cells (List.replicate 32 (Value.int .u8 0)).toArray 23 (0, 0))) := Lib.hid ((b14.block _ (by omega)).trans R8.out)
          have hsz4 := b14.size
          go_upto_region 13 with (refine wpList_store_row_any rfl 23 _ _ rfl wv.heap.size vn rfl rfl 23 _ R11c.out Ivn.out (by rw [Zvc.out, Zvn.out]) Ovn.out ?_; intro w5 hbN hgN hsN; have R11d := Lib.hid hgN; have B5 := Lib.hid (And.intro hbN hsN); clear hbN hgN hsN)
          go_wp2
          go_roundw
          case rel => exact ⟨k + 1, x / 2, y / 2, nodeH cur p, by omega, by go_num, by go_num, by go_num, by omega, by omega, Lib.hid ⟨nodeH_length _ _, SN.out⟩, Lib.hid (by rw [show (bytesV (nodeH cur p)).toArray = vn from Hvn.out]; exact R11d.out), Lib.hid ((B5.out.1.same _ (by omega) (by omega)).trans R8c.out), Lib.hid ((HB.out.trans (b14.mono HB.out.size)).trans (B5.out.1.to_below (by omega) (fun k hk q => by omega))), by have := B5.out.2; omega⟩
          case measure => simp [intOf]; omega
    · obtain rfl : k = m := by omega
      have HEN : Hid (y = 0 ∧ r = cur) := Lib.hid (by
        have := HC.out.2
        rw [List.drop_eq_nil_of_le (by have := HML.out; omega)] at this
        exact this.nil nodeH hxy)
      have hyb : ((y : Int) != 0) = false := by have := HEN.out.1; simp; omega
      go_wp2_with (first | (refine wpList_load_row rfl 23 _ rfl wv.heap.size rfl 23 vc (0, 0) _ R11.out Tryz.underlying23 rfl Ivc.out ?_) | (refine wpList_store_row rfl 23 _ _ rfl (w.heap.size + 1) vc rfl rfl 23 _ R8.out Ivc.out (by rw [Zvc.out]; simp) Ovc.out ?_))
      refine bodyPost_ret (v := .tuple #[.agg vc, .nilIface]) (results_row_tmp rfl _ _ (w.heap.size + 1) 23 vc (0, 0) _ rfl (setRow_heap _ _ _ _ _ _ R8.out) Tryz.underlying23 rfl Ivc.out _ rfl) rfl ⟨by rw [HEN.out.2, EVC.out], by rw [HEN.out.2]; exact HC.out.1, below_setRow HB.out _ _ (by omega)⟩
end Go.Proofs.YtnpblpbcchminaaGreatDoor

/- verify.Inclusion where the path says the root; what a log's leaves and proofs say: plain. Condition: the package-level variables read as listed. -/
namespace Go.Proofs.YtnpblpbcchminaaGreatDoor
open Go.ChangeShapes Go.WideShapes Go.ChangeAt Go.RowKit
set_option linter.unusedVariables false
set_option maxRecDepth 100000 in
set_option maxHeartbeats 4000000 in
theorem vincl_ok (a : Nat → Addr) (B : Nat) (ix sz : Nat) (h : List UInt8) (ps : List (List UInt8)) (r : List UInt8) (A : Option Addr) (m c : Nat) (w : World) (hE : Env B a w) (hh : h.length = 32) (hr : r.length = 32) (hp : HIn w A m c ps) (h1 : ix < sz) (h2 : sz ≤ 9223372036854775808) (hs : Says nodeH ix (sz - 1) h ps r) (hm9 : m ≤ 1000000000) :
    Calls Tryz.prog 36 #[.int .u64 ix, .int .u64 sz, hv h, .slice A m c, hv r] w fun e w' => e = .returned .nilIface ∧ Below w.heap.size w w' := by
  obtain ⟨vh, evh, Hvh, Zvh, Ivh, Ovh⟩ := row_of h hh
  obtain ⟨vr, evr, Hvr, Zvr, Ivr, Ovr⟩ := row_of r hr
  have hB0 : Below w.heap.size w ((w.alloc (.cells vh 23)).alloc (.cells vr 23)) := ((Below.refl _ _).alloc (Nat.le_refl _) _).alloc (by simp) _
  have hR7 : ((w.alloc (.cells vh 23)).alloc (.cells vr 23)).heap[w.heap.size]? = some (.cells vh 23 (0, 0)) := by
    rw [((Below.refl _ (w.alloc (.cells vh 23))).alloc (Nat.le_refl _) _).block w.heap.size (by simp)]; exact heap_at _ _ _ rfl
  have hR9 : ((w.alloc (.cells vh 23)).alloc (.cells vr 23)).heap[w.heap.size + 1]? = some (.cells vr 23 (0, 0)) := heap_at _ _ _ (by simp)
  obtain ⟨wv, hwv⟩ : ∃ wv, (w.alloc (.cells vh 23)).alloc (.cells vr 23) = wv := ⟨_, rfl⟩
  rw [hwv] at hB0 hR7 hR9
  have HROOT : Hid (Calls Tryz.prog 125 #[.int .u64 ix, .int .u64 sz, .agg vh, .slice A m c] wv fun e w' => e = .returned (.tuple #[.agg vr, .nilIface]) ∧ Below wv.heap.size wv w') := Lib.hid (by
    have := vroot_ok a B ix sz h ps r A m c wv (hE.step hB0) hh (hp.below hB0) h1 h2 hs hm9
    rw [evh, evr] at this
    exact this.mono (fun _ _ q => ⟨q.1, q.2.2⟩))
  have hq := eq_hash r r hr hr vr vr evr evr
  have hq' : ∀ w, (Op.equalIn 10000 23 (.agg vr) (.agg vr)).run Tryz.prog w = .ok true w := fun w => by rw [hq w]; simp
  have HWV := Lib.hid hwv
  have HB := Lib.hid hB0
  have R7 := Lib.hid hR7
  have R9 := Lib.hid hR9
  rw [evh, evr]
  clear hE hp hs evh evr hwv hB0 hR7 hR9 hq hh hr
  go_enter Tryz.func36, Tryz.ntmps36
  go_upto_region 1 with fail
  rw [HWV.out]
  go_wp2_with (refine wpList_load_row rfl 23 _ rfl w.heap.size rfl 23 vh (0, 0) _ R7.out Tryz.underlying23 rfl Ivh.out ?_)
  refine HROOT.out.mono ?_
  rintro ev w1 ⟨rfl, b1⟩
  have R9b : Hid (w1.heap[w.heap.size + 1]? = some (.cells vr 23 (0, 0))) := Lib.hid ((b1.block _ (Array.getElem?_eq_some_iff.1 R9.out).1).trans R9.out)
  go_upto_region 2 with (refine wpList_store_row_any rfl 23 _ _ rfl w1.heap.size vr rfl rfl 23 _ (heap_at _ _ _ rfl) Ivr.out (by rw [Zvr.out]; rfl) Ovr.out ?_; intro w2 hbN hgN hsN; have b2 : Below w1.heap.size w1 w2 := ((Below.refl _ w1).alloc (Nat.le_refl _) _).trans (hbN.to_below (by simp) (fun k hk q => by omega)); have R11 := Lib.hid hgN; clear hbN hgN hsN)
  have R9c : Hid (w2.heap[w.heap.size + 1]? = some (.cells vr 23 (0, 0))) := Lib.hid ((b2.block _ (Array.getElem?_eq_some_iff.1 R9b.out).1).trans R9b.out)
  have HF : Hid (Below w.heap.size w w2) := Lib.hid (HB.out.trans ((b1.trans (b2.mono b1.size)).mono HB.out.size))
  go_wp2_with (first | (refine wpList_load_row rfl 23 _ rfl w1.heap.size rfl 23 vr (0, 0) _ R11.out Tryz.underlying23 rfl Ivr.out ?_) | (refine wpList_load_row rfl 23 _ rfl (w.heap.size + 1) rfl 23 vr (0, 0) _ R9c.out Tryz.underlying23 rfl Ivr.out ?_))
  go_ret
  exact ⟨rfl, HF.out⟩
end Go.Proofs.YtnpblpbcchminaaGreatDoor

