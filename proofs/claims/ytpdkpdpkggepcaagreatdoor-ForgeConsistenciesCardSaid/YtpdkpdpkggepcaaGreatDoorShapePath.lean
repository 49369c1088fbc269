/- shape.halves and shape.Path, what they answer: the stretches of a path. Condition: the package-level variables read as listed. -/
import Derived.Test.YtpdkpdpkggepcaaGreatDoorLen64
import Derived.Test.YtpdkpdpkggepcaaGreatDoorErrs
import Derived.Test.YtpdkpdpkggepcaaGreatDoorMem
import Derived.RegionTactic
import Derived.ChangeAlike
import Derived.BigQuiet
import Derived.Deep.QuietTactic
import Derived.BigRegion
import Derived.Laws.EntriesVeiled
namespace Go.Proofs.YtpdkpdpkggepcaaGreatDoor
open Go.ChangeShapes Go.WideShapes Go.ChangeAt Go.RowKit
set_option maxRecDepth 100000
set_option maxHeartbeats 1000000
set_option linter.unusedVariables false
theorem halves_any (b e:Int) (w:World) (h0:0 ≤ b) (h2:b+2 ≤ e) (he:e ≤ 9223372036854775808) :
 Calls Tryz.prog 55 #[.agg #[.int .u64 b,.int .u64 e]] w fun ev w' => ev = .returned (.tuple #[.agg #[.int .u64 b,.int .u64 (b+blwI (e - b))],.agg #[.int .u64 (b+blwI (e - b)),.int .u64 e]]) ∧ Below w.heap.size w w':=by
 have hk:=blwI_bd (n:=e - b) (by omega)
 go_enter Tryz.func55,Tryz.ntmps55
 go_wp2_with (go_at_call 52;refine (split_yes _ _ (by omega) (by omega)).mono ?_;rintro e w' ⟨rfl,rfl⟩)
 go_region
 go_wp2
 refine bodyPost_ret (v:=.tuple #[.agg #[.int .u64 b,.int .u64 (b+blwI (e - b))],.agg #[.int .u64 (b+blwI (e - b)),.int .u64 e]]) (by simp [results,Tryz.results55,go_sem]) rfl ⟨rfl,?_⟩
 repeat (first | exact Below.refl _ _ | (refine below_drewN ?_) | (refine Below.drew ?_) | (refine Below.alloc ?_ (by simp;try omega) _) | (refine Below.setCell ?_ (by simp;try omega) _))
/-! the stretches of a path, by fuel -/
def pathL:Nat → Int → Int → Int → List (Int × Int)
 | 0,_,_,_ => []
 | f+1,ix,b,e => if e - b < 2 then [] else if ix < b+blwI (e - b) then pathL f ix b (b+blwI (e - b)) ++ [(b+blwI (e - b),e)] else pathL f ix (b+blwI (e - b)) e ++ [(b,b+blwI (e - b))]
theorem pathL_len:∀ (f:Nat) (ix b e:Int),(pathL f ix b e).length ≤ f
 | 0,_,_,_ => Nat.le_refl _
 | f+1,ix,b,e => by
  unfold pathL
  have h1:=pathL_len f ix b (b+blwI (e - b))
  have h2:=pathL_len f ix (b+blwI (e - b)) e
  split
  ·simp
  ·split <;> simp <;> omega
theorem blwI_le_pow {n:Int} {f:Nat} (h2:2 ≤ n) (h:n ≤ pow2 (f+1)):blwI n ≤ pow2 f:=by
 have hb:=blwI_bd h2
 have hp:=blwI_pow h2
 have hl:=lgI_pos h2
 obtain ⟨k,hk⟩:∃ k:Nat,(lgI n - 1).toNat = k:=⟨_,rfl⟩
 have e1:blwI n = pow2 k:=by rw [hp,hk];unfold pow2;simp
 rw [e1]
 refine pow2_le ?_
 by_cases hc:k ≤ f
 ·exact hc
 ·have:=pow2_le (show f+1 ≤ k by omega);omega
def CollPost (base Bl:Nat) (w:World) (v:Value) (n:Nat) (xs:List Value) (news:List (Int × Int)) (ev:Ending) (w':World):Prop :=
 ev = .returned (.tuple #[]) ∧ ∃ v',w'.cell? ⟨Bl,0,none⟩ = some v' ∧ w'.frozen? ⟨Bl,0,none⟩ = false ∧ w'.ownsRow base 84 2 v' (n+news.length) (xs ++ spanCells news) ∧ Coll Bl w w' v v'
theorem collPost_nil {base Bl:Nat} {w w':World} {v:Value} {n:Nat} {xs:List Value} {ev:Ending} (he:ev = .returned (.tuple #[])) (hl:w.cell? ⟨Bl,0,none⟩ = some v) (hf:w.frozen? ⟨Bl,0,none⟩ = false)
 (hown:w.ownsRow base 84 2 v n xs) (hb:Below w.heap.size w w'):CollPost base Bl w v n xs [] ev w' :=
 ⟨he,v,cell_below hb hl (block_of_cell hl),frozen_below hb hf (block_of_cell hl),by simpa [spanCells] using own_below hown hb (Nat.le_refl _),Coll.below hb⟩
theorem info_span:(Tryz.prog.info? 84).map (fun i => (i.zero,i.size,i.bytes)) = some (some (.agg #[.int .u64 0,.int .u64 0]),2,16):=by kernel_rfl
theorem path1 (f:Nat):∀ (b e ix:Int) (Bx Bd Bl base:Nat) (v:Value) (n:Nat) (xs:List Value) (w:World),f ≤ 64 → 0 ≤ b → b ≤ e → e ≤ 9223372036854775808 → 0 ≤ ix → ix < 18446744073709551616 → e - b ≤ pow2 f →
 w.cell? ⟨Bx,0,none⟩ = some (.int .u64 ix) → w.cell? ⟨Bd,0,none⟩ = some (.func (.func 54) #[] #[.pointer (some ⟨Bx,0,none⟩),.pointer (some ⟨Bd,0,none⟩),.pointer (some ⟨Bl,0,none⟩)]) → w.cell? ⟨Bl,0,none⟩ = some v → w.frozen? ⟨Bl,0,none⟩ = false →
 w.ownsRow base 84 2 v n xs → base ≤ w.heap.size → Bx < base → Bd < base → Bl < base → Bx ≠ Bl → Bd ≠ Bl → n+f ≤ 200 →
 Calls Tryz.prog 54 #[.agg #[.int .u64 b,.int .u64 e],.pointer (some ⟨Bx,0,none⟩),.pointer (some ⟨Bd,0,none⟩),.pointer (some ⟨Bl,0,none⟩)] w (CollPost base Bl w v n xs (pathL f ix b e)):=by
 induction f with
 | zero =>
  intro b e ix Bx Bd Bl base v n xs w hf64 h0 h1 he hx0 hx1 hfu hx hd hl hf hown hb hbx hbd hbl hne1 hne2 hn
  rw [pow2_zero] at hfu
  go_enter Tryz.func54,Tryz.ntmps54
  go_wp2
  go_end0
  refine collPost_nil rfl hl hf hown ?_
  repeat (first | exact Below.refl _ _ | (refine below_drewN ?_) | (refine Below.drew ?_) | (refine Below.alloc ?_ (by simp;try omega) _) | (refine Below.setCell ?_ (by simp;try omega) _))
 | succ f ih =>
  intro b e ix Bx Bd Bl base v n xs w hf64 h0 h1 he hx0 hx1 hfu hx hd hl hf hown hb hbx hbd hbl hne1 hne2 hn
  by_cases hs:e - b < 2
  ·have hp:pathL (f+1) ix b e = []:=by unfold pathL;rw [if_pos hs]
   rw [hp]
   clear hp hfu
   go_enter Tryz.func54,Tryz.ntmps54
   go_wp2
   go_end0
   refine collPost_nil rfl hl hf hown ?_
   repeat (first | exact Below.refl _ _ | (refine below_drewN ?_) | (refine Below.drew ?_) | (refine Below.alloc ?_ (by simp;try omega) _) | (refine Below.setCell ?_ (by simp;try omega) _))
  ·have hk:=blwI_bd (n:=e - b) (by omega)
   have hkf:=blwI_le_pow (n:=e - b) (f:=f) (by omega) hfu
   have H2:Hid (e - (b+blwI (e - b)) ≤ pow2 f ∧ b+blwI (e - b) - b ≤ pow2 f):=Lib.hid (by omega)
   obtain ⟨i0,hi,hz0,hz1,hz2⟩:=info_parts info_span
   by_cases hlt:ix < b+blwI (e - b)
   all_goals
    first
    | (have HP : Hid (pathL (f + 1) ix b e = pathL f ix b (b + blwI (e - b)) ++ [(b + blwI (e - b), e)]) := Lib.hid (by rw [pathL, if_neg hs, if_pos hlt])
       have HL:=Lib.hid (pathL_len f ix b (b+blwI (e - b))))
    | (have HP : Hid (pathL (f + 1) ix b e = pathL f ix (b + blwI (e - b)) e ++ [(b, b + blwI (e - b))]) := Lib.hid (by rw [pathL, if_neg hs, if_neg hlt])
       have HL:=Lib.hid (pathL_len f ix (b+blwI (e - b)) e))
    rw [HP.out]
    clear hfu hkf
    have HI:=Lib.hid ih
    clear ih
    go_enter Tryz.func54,Tryz.ntmps54
    go_wp2_with fail
    refine (halves_any _ _ _ (by omega) (by omega) (by omega)).mono ?_
    rintro ev w1 ⟨rfl,hb1⟩
    have hsz:=hb1.size
    simp at hsz
    have hx':=cell_below hb1 (cell_alloc hx _) (by simp;omega)
    have hd':=cell_below hb1 (cell_alloc hd _) (by simp;omega)
    have hl':=cell_below hb1 (cell_alloc hl _) (by simp;omega)
    have hf':=frozen_below hb1 (frozen_alloc hf (by omega) _) (by simp;omega)
    have ho':w1.ownsRow base 84 2 v n xs:=own_below (hown.alloc _) hb1 (Nat.le_refl _)
    have hC1:Coll Bl w w1 v v:=Coll.below (((Below.refl _ w).alloc (Nat.le_refl _) _).trans (hb1.mono (by simp)))
    clear hx hd hl hf hown hb1
    have q1:Bx < w1.heap.size:=by omega
    have q2:Bd < w1.heap.size:=by omega
    have q3:Bl < w1.heap.size:=by omega
    go_wp2_with fail
    refine (HI.out _ _ ix Bx Bd Bl base v n xs _ (by omega) (by omega) (by omega) (by omega) hx0 hx1 (by have:=H2.out;omega) (cell_alloc (cell_alloc hx' _) _) (cell_alloc (cell_alloc hd' _) _) (cell_alloc (cell_alloc hl' _) _)
     (frozen_alloc (frozen_alloc hf' q3 _) (by simp;omega) _) ((ho'.alloc _).alloc _) (by simp;omega) hbx hbd hbl hne1 hne2 (by omega)).mono ?_
    rintro ev w2 ⟨rfl,v2,hl2,hf2,hown2,hC2⟩
    clear HI
    have hnb:=own_ne_low hown2 hbl
    have hs2:=hC2.size
    simp at hs2
    have hC12:=hC1.trans ((Coll.below (((Below.refl _ w1).alloc (Nat.le_refl _) _).alloc (by simp) _)).trans hC2)
    have k0:=hC2.cell (b:=w1.heap.size+1) (o:=0) (x:=.int .u64 (b+blwI (e - b))) (by rw [← World.size_alloc];exact cell_new _ _ 0 _ rfl) (by omega) (own_ne_new ho' (by omega))
    have k1:=hC2.cell (b:=w1.heap.size+1) (o:=1) (x:=.int .u64 e) (by rw [← World.size_alloc];exact cell_new _ _ 1 _ rfl) (by omega) (own_ne_new ho' (by omega))
    have j0:=hC2.cell (b:=w1.heap.size) (o:=0) (x:=.int .u64 b) (cell_alloc (cell_new _ _ 0 _ rfl) _) (by omega) (own_ne_new ho' (by omega))
    have j1:=hC2.cell (b:=w1.heap.size) (o:=1) (x:=.int .u64 (b+blwI (e - b))) (cell_alloc (cell_new _ _ 1 _ rfl) _) (by omega) (own_ne_new ho' (by omega))
    clear hx' hd' hl' hf' ho' hC1 hC2
    have q1:Bx < w2.heap.size:=by omega
    have q3:Bl < w2.heap.size:=by omega
    have hle:base ≤ w2.heap.size:=by omega
    go_wp2_with (at_builtin;refine wpList_append_lies _ rfl _ _ 64 rfl base 84 i0 (.agg #[.int .u64 0,.int .u64 0]) 2 16 Tryz.underlying64 hi hz0 hz1 hz2 rfl (by decide) v2 _ _ rfl (hown2.alloc _) ⟨w2.heap.size,0,none⟩ 1 1 _ rfl rfl (news_new _ _) (by simp [Value.oneCell']) (by decide) (by unfold maxLen;have:=HL.out;omega) (by have:=HL.out;omega) (by simp;omega) _ rfl ?_;intro g cap w3 hown3 hgrow3 hat3 hlt3;have hl3:=hgrow3.cell (cell_alloc hl2 _) hnb;have hf3:=(hgrow3.frozen_far ⟨Bl,0,none⟩ (by simp;omega) hnb).trans (frozen_alloc hf2 q3 _))
    go_end0
    refine ⟨rfl,_,World.cell?_setCell_same' _ _ _ (by rw [hl3];rfl),by rw [World.frozen?_setCell];exact hf3,?_,?_⟩
    ·exact own_congr (own_setCell hown3 (own_ne_low hown3 hbl) _) (by simp;omega) (by simp [spanCells_append,spanCells_one])
    ·exact hC12.trans ((Coll.below ((Below.refl _ w2).alloc (Nat.le_refl _) _)).trans (Coll.append hgrow3 (by simpa using hat3) _ rfl))
theorem path_ok (ix sz:Int) (w:World) (h0:0 ≤ ix) (h1:ix < sz) (h2:sz ≤ 9223372036854775808) :
 Calls Tryz.prog 25 #[.int .u64 ix,.int .u64 sz] w (ListPost 84 2 w (pathL 64 ix 0 sz).length (spanCells (pathL 64 ix 0 sz))):=by
 have hp:Hid (sz - 0 ≤ pow2 64):=Lib.hid (by rw [pow2_64];omega)
 go_enter Tryz.func25,Tryz.ntmps25
 go_wp2_with fail
 refine (path1 64 _ _ ix w.heap.size (w.heap.size+1+1) (w.heap.size+1) (w.heap.size+3) (.slice none 0 0) 0 [] _ (by omega) (by omega) (by omega) (by omega) (by omega) (by omega) hp.out ?_ ?_ ?_ ?_ (World.ownsRow_nil _ _ _ _) ?_ (by omega) (by omega) (by omega) (by omega) (by omega) (by omega)).mono ?_
 ·go_simp
 ·go_simp
 ·go_simp
 ·go_simp
 ·simp
 rintro ev w2 ⟨rfl,v2,hl2,hf2,hown2,hC2⟩
 have hs2:=hC2.size
 simp at hs2
 have hb2:Below w.heap.size w w2:=(((((Below.refl _ w).alloc (Nat.le_refl _) _).alloc (by simp) _).alloc (by simp;omega) _)).trans (hC2.to_below (by omega) (by simp) rfl)
 clear hC2
 go_wp2
 refine bodyPost_ret (v:=.tuple #[v2,.nilIface]) (by simp [results,Tryz.results25,go_sem]) rfl ⟨v2,rfl,own_congr (own_mono hown2 (by omega)) (by simp) (by simp),hb2⟩
end Go.Proofs.YtpdkpdpkggepcaaGreatDoor
