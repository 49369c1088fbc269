/- shape.Proof, what it answers: the stretches of a proof from one size to another. Condition: the package-level variables read as listed. -/
import Derived.Test.YtpdkpdpkggepcaaGreatDoorShapePath
namespace Go.Proofs.YtpdkpdpkggepcaaGreatDoor
open Go.ChangeShapes Go.WideShapes Go.ChangeAt Go.RowKit
set_option maxRecDepth 100000
set_option maxHeartbeats 1000000
set_option linter.unusedVariables false
def proofL:Nat → Int → Int → Int → List (Int × Int)
 | 0,old,b,e => if e = old then (if 0 < b then [(b,e)] else []) else []
 | f+1,old,b,e => if e = old then (if 0 < b then [(b,e)] else []) else if old ≤ b+blwI (e - b) then proofL f old b (b+blwI (e - b)) ++ [(b+blwI (e - b),e)] else proofL f old (b+blwI (e - b)) e ++ [(b,b+blwI (e - b))]
theorem proofL_end {f:Nat} {b e:Int}:proofL f e b e = if 0 < b then [(b,e)] else []:=by cases f <;> simp [proofL]
theorem proofL_len:∀ (f:Nat) (old b e:Int),(proofL f old b e).length ≤ f+1
 | 0,_,_,_ => by unfold proofL;split <;> (try split) <;> simp
 | f+1,old,b,e => by
  unfold proofL
  have h1:=proofL_len f old b (b+blwI (e - b))
  have h2:=proofL_len f old (b+blwI (e - b)) e
  split
  ·split <;> simp
  ·split <;> simp <;> omega
theorem proof1_end (f:Nat) (b e:Int) (Bx Bd Bl base:Nat) (v:Value) (n:Nat) (xs:List Value) (w:World) (h0:0 ≤ b) (h1:b < e) (he:e ≤ 9223372036854775808)
 (hx:w.cell? ⟨Bx,0,none⟩ = some (.int .u64 e)) (hl:w.cell? ⟨Bl,0,none⟩ = some v) (hf:w.frozen? ⟨Bl,0,none⟩ = false)
 (hown:w.ownsRow base 84 2 v n xs) (hb:base ≤ w.heap.size) (hbx:Bx < base) (hbl:Bl < base) (hn:n ≤ 200) :
 Calls Tryz.prog 80 #[.agg #[.int .u64 b,.int .u64 e],.pointer (some ⟨Bx,0,none⟩),.pointer (some ⟨Bl,0,none⟩),.pointer (some ⟨Bd,0,none⟩)] w (CollPost base Bl w v n xs (proofL f e b e)):=by
 rw [proofL_end]
 obtain ⟨i0,hi,hz0,hz1,hz2⟩:=info_parts info_span
 have q1:Bx < w.heap.size:=by omega
 have q3:Bl < w.heap.size:=by omega
 by_cases hb0:0 < b
 ·rw [if_pos hb0]
  have hnb:=own_ne_low hown hbl
  go_enter Tryz.func80,Tryz.ntmps80
  go_wp2_with (at_builtin;refine wpList_append_lies _ rfl _ _ 64 rfl base 84 i0 (.agg #[.int .u64 0,.int .u64 0]) 2 16 Tryz.underlying64 hi hz0 hz1 hz2 rfl (by decide) v _ _ rfl ((hown.alloc _).alloc _) ⟨w.heap.size+1,0,none⟩ 1 1 [.int .u64 b,.int .u64 e] rfl rfl (by rw [← World.size_alloc];exact news_new #[.int .u64 b,.int .u64 e] _) (by simp [Value.oneCell']) (by decide) (by unfold maxLen;omega) (by omega) (by simp;omega) _ rfl ?_;intro g cap w3 hown3 hgrow3 hat3 hlt3;have hl3:=hgrow3.cell (cell_alloc (cell_alloc hl _) _) hnb;have hf3:=(hgrow3.frozen_far ⟨Bl,0,none⟩ (by simp;omega) hnb).trans (frozen_alloc (frozen_alloc hf q3 _) (by simp;omega) _))
  go_end0
  refine ⟨rfl,_,World.cell?_setCell_same' _ _ _ (by rw [hl3];rfl),by rw [World.frozen?_setCell];exact hf3,?_,?_⟩
  ·exact own_congr (own_setCell hown3 (own_ne_low hown3 hbl) _) (by simp) (by simp [spanCells_one])
  ·exact (Coll.below (((Below.refl _ w).alloc (Nat.le_refl _) _).alloc (by simp) _)).trans (Coll.append hgrow3 (by simpa using hat3) _ rfl)
 ·rw [if_neg hb0]
  obtain rfl:b = 0:=by omega
  go_enter Tryz.func80,Tryz.ntmps80
  go_wp2
  go_end0
  refine collPost_nil rfl hl hf hown ?_
  repeat (first | exact Below.refl _ _ | (refine below_drewN ?_) | (refine Below.drew ?_) | (refine Below.alloc ?_ (by simp;try omega) _) | (refine Below.setCell ?_ (by simp;try omega) _))
theorem proof1 (f:Nat):∀ (b e old:Int) (Bx Bd Bl base:Nat) (v:Value) (n:Nat) (xs:List Value) (w:World),f ≤ 64 → 0 ≤ b → b < old → old ≤ e → e ≤ 9223372036854775808 → e - b ≤ pow2 f →
 w.cell? ⟨Bx,0,none⟩ = some (.int .u64 old) → w.cell? ⟨Bd,0,none⟩ = some (.func (.func 80) #[] #[.pointer (some ⟨Bx,0,none⟩),.pointer (some ⟨Bl,0,none⟩),.pointer (some ⟨Bd,0,none⟩)]) → w.cell? ⟨Bl,0,none⟩ = some v → w.frozen? ⟨Bl,0,none⟩ = false →
 w.ownsRow base 84 2 v n xs → base ≤ w.heap.size → Bx < base → Bd < base → Bl < base → Bx ≠ Bl → Bd ≠ Bl → n+f ≤ 200 →
 Calls Tryz.prog 80 #[.agg #[.int .u64 b,.int .u64 e],.pointer (some ⟨Bx,0,none⟩),.pointer (some ⟨Bl,0,none⟩),.pointer (some ⟨Bd,0,none⟩)] w (CollPost base Bl w v n xs (proofL f old b e)):=by
 induction f with
 | zero =>
  intro b e old Bx Bd Bl base v n xs w hf64 h0 h1 hoe he hfu hx hd hl hf hown hb hbx hbd hbl hne1 hne2 hn
  rw [pow2_zero] at hfu
  obtain rfl:e = old:=by omega
  exact proof1_end 0 b e Bx Bd Bl base v n xs w h0 h1 he hx hl hf hown hb hbx hbl (by omega)
 | succ f ih =>
  intro b e old Bx Bd Bl base v n xs w hf64 h0 h1 hoe he hfu hx hd hl hf hown hb hbx hbd hbl hne1 hne2 hn
  by_cases hs:e = old
  ·subst hs
   exact proof1_end (f+1) b e Bx Bd Bl base v n xs w h0 h1 he hx hl hf hown hb hbx hbl (by omega)
  ·have hk:=blwI_bd (n:=e - b) (by omega)
   have hkf:=blwI_le_pow (n:=e - b) (f:=f) (by omega) hfu
   have H2:Hid (e - (b+blwI (e - b)) ≤ pow2 f ∧ b+blwI (e - b) - b ≤ pow2 f):=Lib.hid (by omega)
   obtain ⟨i0,hi,hz0,hz1,hz2⟩:=info_parts info_span
   by_cases hlt:old ≤ b+blwI (e - b)
   all_goals
    first
    | (have HP : Hid (proofL (f + 1) old b e = proofL f old b (b + blwI (e - b)) ++ [(b + blwI (e - b), e)]) := Lib.hid (by rw [proofL, if_neg hs, if_pos hlt])
       have HL:=Lib.hid (proofL_len f old b (b+blwI (e - b))))
    | (have HP : Hid (proofL (f + 1) old b e = proofL f old (b + blwI (e - b)) e ++ [(b, b + blwI (e - b))]) := Lib.hid (by rw [proofL, if_neg hs, if_neg hlt])
       have HL:=Lib.hid (proofL_len f old (b+blwI (e - b)) e))
    rw [HP.out]
    clear hfu hkf
    have hne:(e == old) = false:=by simpa using hs
    have q0:Bx < w.heap.size:=by omega
    have HI:=Lib.hid ih
    clear ih
    go_enter Tryz.func80,Tryz.ntmps80
    go_wp2_with fail
    refine (halves_any _ _ _ (by omega) (by omega) (by omega)).mono ?_
    rintro ev w1 ⟨rfl,hb1⟩
    have hsz:=hb1.size
    simp at hsz
    have hx':=cell_below hb1 (cell_alloc hx _) (by simp;omega)
    have hd':=cell_below hb1 (cell_alloc hd _) (by simp;omega)
    have hl':=cell_below hb1 (cell_alloc hl _) (by simp;omega)
    have hf':=frozen_below hb1 (frozen_alloc hf (by omega) _) (by simp;omega)
    have ho':w1.ownsRow base 84 2 v n xs:=own_below (hown.alloc _) hb1 (Nat.le_refl _)
    have hC1:Coll Bl w w1 v v:=Coll.below (((Below.refl _ w).alloc (Nat.le_refl _) _).trans (hb1.mono (by simp)))
    clear hx hd hl hf hown hb1
    have q1:Bx < w1.heap.size:=by omega
    have q2:Bd < w1.heap.size:=by omega
    have q3:Bl < w1.heap.size:=by omega
    go_wp2_with fail
    refine (HI.out _ _ old Bx Bd Bl base v n xs _ (by omega) (by omega) (by omega) (by omega) (by omega) (by have:=H2.out;omega) (cell_alloc (cell_alloc hx' _) _) (cell_alloc (cell_alloc hd' _) _) (cell_alloc (cell_alloc hl' _) _)
     (frozen_alloc (frozen_alloc hf' q3 _) (by simp;omega) _) ((ho'.alloc _).alloc _) (by simp;omega) hbx hbd hbl hne1 hne2 (by omega)).mono ?_
    rintro ev w2 ⟨rfl,v2,hl2,hf2,hown2,hC2⟩
    clear HI
    have hnb:=own_ne_low hown2 hbl
    have hs2:=hC2.size
    simp at hs2
    have hC12:=hC1.trans ((Coll.below (((Below.refl _ w1).alloc (Nat.le_refl _) _).alloc (by simp) _)).trans hC2)
    have k0:=hC2.cell (b:=w1.heap.size+1) (o:=0) (x:=.int .u64 (b+blwI (e - b))) (by rw [← World.size_alloc];exact cell_new _ _ 0 _ rfl) (by omega) (own_ne_new ho' (by omega))
    have k1:=hC2.cell (b:=w1.heap.size+1) (o:=1) (x:=.int .u64 e) (by rw [← World.size_alloc];exact cell_new _ _ 1 _ rfl) (by omega) (own_ne_new ho' (by omega))
    have j0:=hC2.cell (b:=w1.heap.size) (o:=0) (x:=.int .u64 b) (cell_alloc (cell_new _ _ 0 _ rfl) _) (by omega) (own_ne_new ho' (by omega))
    have j1:=hC2.cell (b:=w1.heap.size) (o:=1) (x:=.int .u64 (b+blwI (e - b))) (cell_alloc (cell_new _ _ 1 _ rfl) _) (by omega) (own_ne_new ho' (by omega))
    clear hx' hd' hl' hf' ho' hC1 hC2
    have q1:Bx < w2.heap.size:=by omega
    have q3:Bl < w2.heap.size:=by omega
    have hle:base ≤ w2.heap.size:=by omega
    go_wp2_with (at_builtin;refine wpList_append_lies _ rfl _ _ 64 rfl base 84 i0 (.agg #[.int .u64 0,.int .u64 0]) 2 16 Tryz.underlying64 hi hz0 hz1 hz2 rfl (by decide) v2 _ _ rfl (hown2.alloc _) ⟨w2.heap.size,0,none⟩ 1 1 _ rfl rfl (news_new _ _) (by simp [Value.oneCell']) (by decide) (by unfold maxLen;have:=HL.out;omega) (by have:=HL.out;omega) (by simp;omega) _ rfl ?_;intro g cap w3 hown3 hgrow3 hat3 hlt3;have hl3:=hgrow3.cell (cell_alloc hl2 _) hnb;have hf3:=(hgrow3.frozen_far ⟨Bl,0,none⟩ (by simp;omega) hnb).trans (frozen_alloc hf2 q3 _))
    go_end0
    refine ⟨rfl,_,World.cell?_setCell_same' _ _ _ (by rw [hl3];rfl),by rw [World.frozen?_setCell];exact hf3,?_,?_⟩
    ·exact own_congr (own_setCell hown3 (own_ne_low hown3 hbl) _) (by simp;omega) (by simp [spanCells_append,spanCells_one])
    ·exact hC12.trans ((Coll.below ((Below.refl _ w2).alloc (Nat.le_refl _) _)).trans (Coll.append hgrow3 (by simpa using hat3) _ rfl))
theorem proof_ok (old sz:Int) (w:World) (h0:0 < old) (h1:old ≤ sz) (h2:sz ≤ 9223372036854775808) :
 Calls Tryz.prog 43 #[.int .u64 old,.int .u64 sz] w (ListPost 84 2 w (proofL 64 old 0 sz).length (spanCells (proofL 64 old 0 sz))):=by
 have hp:Hid (sz - 0 ≤ pow2 64):=Lib.hid (by rw [pow2_64];omega)
 have hz':(old == 0) = false:=by simp;omega
 go_enter Tryz.func43,Tryz.ntmps43
 go_wp2_with fail
 refine (proof1 64 _ _ old w.heap.size (w.heap.size+1+1) (w.heap.size+1) (w.heap.size+3) (.slice none 0 0) 0 [] _ (by omega) (by omega) (by omega) (by omega) (by omega) hp.out ?_ ?_ ?_ ?_ (World.ownsRow_nil _ _ _ _) ?_ (by omega) (by omega) (by omega) (by omega) (by omega) (by omega)).mono ?_
 ·go_simp
 ·go_simp
 ·go_simp
 ·go_simp
 ·simp
 rintro ev w2 ⟨rfl,v2,hl2,hf2,hown2,hC2⟩
 have hs2:=hC2.size
 simp at hs2
 have hb2:Below w.heap.size w w2:=(((((Below.refl _ w).alloc (Nat.le_refl _) _).alloc (by simp) _).alloc (by simp;omega) _)).trans (hC2.to_below (by omega) (by simp) rfl)
 clear hC2
 go_wp2
 refine bodyPost_ret (v:=.tuple #[v2,.nilIface]) (by simp [results,Tryz.results43,go_sem]) rfl ⟨v2,rfl,own_congr (own_mono hown2 (by omega)) (by simp) (by simp),hb2⟩
end Go.Proofs.YtpdkpdpkggepcaaGreatDoor
