import Derived.Test.YtpdkpdpkggepcaaGreatDoorMem
import Derived.Test.YtpdkpdpkggepcaaGreatDoorHashAid
import Derived.Maps.OwnSet
import Derived.DeepKeys5
import Derived.Test.YtpdkpdpkggepcaaGreatDoorSameHashes
import Derived.Deep.MidRow
import Derived.BigRegion
import Derived.Carry
import Derived.Test.YtpdkpdpkggepcaaGreatDoorNaiveHashes
import Derived.Deep.DeepCutAuto
import Derived.Test.YtpdkpdpkggepcaaGreatDoorForgeApi
/- A map from stretches to hashes. No program in sight but its types. -/
namespace Go.Proofs.YtpdkpdpkggepcaaGreatDoor
open Go.ChangeShapes Go.WideShapes Go.ChangeAt Go.RowKit
set_option maxRecDepth 100000
set_option maxHeartbeats 8000000
open Lib (hid)
set_option linter.unusedVariables false
theorem byteV_inj {a b:UInt8} (h:byteV a = byteV b):a = b:=by
 unfold byteV at h
 simp only [Value.int.injEq,true_and] at h
 exact UInt8.toNat_inj.1 (by omega)
theorem bytesV_inj:∀ {a b:List UInt8},bytesV a = bytesV b → a = b
 | [],[],_ => rfl
 | [],y :: s,h => by simp [bytesV] at h
 | x :: r,[],h => by simp [bytesV] at h
 | x :: r,y :: s,h => by
  unfold bytesV at h
  rw [List.map_cons,List.map_cons] at h
  injection h with h1 h2
  rw [byteV_inj h1,bytesV_inj (a:=r) (b:=s) h2]
theorem hv_inj {a b:List UInt8} (h:hv a = hv b):a = b:=by
 unfold hv at h
 injection h with h
 exact bytesV_inj (by simpa using congrArg Array.toList h)
noncomputable def hashR (v:Value):Option (DataW Unit × List MemPlace):=by
 classical
 exact if h:∃ l:List UInt8,l.length = 32 ∧ v = hv l then some (.lit (.string h.choose),[]) else none
theorem hashR_hv {l:List UInt8} (hl:l.length = 32):hashR (hv l) = some (.lit (.string l),[]):=by
 have h:∃ m:List UInt8,m.length = 32 ∧ hv l = hv m:=⟨l,hl,rfl⟩
 unfold hashR
 rw [dif_pos h]
 rw [← hv_inj h.choose_spec.2]
theorem hashR_inv {v:Value} {l:List UInt8} {ps:List MemPlace} (h:hashR v = some (.lit (.string l),ps)):l.length = 32 ∧ v = hv l:=by
 unfold hashR at h
 by_cases q:∃ m:List UInt8,m.length = 32 ∧ v = hv m
 ·rw [dif_pos q] at h
  simp only [Option.some.injEq,Prod.mk.injEq,DataW.lit.injEq,Lit.string.injEq] at h
  rw [← h.1]
  exact q.choose_spec
 ·rw [dif_neg q] at h;cases h
def spanV (p:Int × Int):Value:=.agg #[.int .u64 p.1,.int .u64 p.2]
def PB (p:Int × Int):Prop:=0 ≤ p.1 ∧ p.1 < 18446744073709551616 ∧ 0 ≤ p.2 ∧ p.2 < 18446744073709551616
def keyS (p:Int × Int):Lit:=.string (keyBytes [.int .u64 p.1,.int .u64 p.2])
theorem laidOut_span:laidOutB Tryz.prog = true:=by kernel_rfl
theorem span_law:Maps.Keyed Tryz.prog 84:=Maps.Keyed.of_law (deep_law_laid laidOut_span (m:=236+1) (by decide) (of_decide_eq_true (by kernel_rfl)) (by kernel_rfl) (by kernel_rfl))
theorem keyS_of (p:Int × Int) (h:PB p):keyOf Tryz.prog 84 (spanV p) = some (keyS p):=by
 have hk:Tryz.prog.keyType 84 = true:=by kernel_rfl
 have hn:Tryz.prog.types.size = 236:=by kernel_rfl
 have hc:Tryz.prog.cellsOf 84 = 2:=by kernel_rfl
 have c2:Tryz.prog.cellsOf 23 = 1:=by kernel_rfl
 have w1:(Lit.int .u64 p.1).wf = true:=by have:=h.1;have:=h.2.1;simp [Lit.wf,IntKind.min,IntKind.max,IntKind.signed,IntKind.bits];omega
 have w2:(Lit.int .u64 p.2).wf = true:=by have:=h.2.2;simp [Lit.wf,IntKind.min,IntKind.max,IntKind.signed,IntKind.bits];omega
 have u1:=Tryz.underlying84
 have u3:=Tryz.underlying23
 unfold keyOf
 rw [u1]
 simp only [hk,Bool.true_and]
 rw [if_pos (show (spanV p).formed Tryz.prog 84 = true by unfold Value.formed;simp only [u1,spanV,hc];rfl)]
 obtain ⟨f,hf⟩:∃ f,Tryz.prog.types.size = f+1:=⟨236 - 1,by rw [hn]⟩
 rw [hf]
 have hl:Tryz.prog.keyLits (f+1+1) 84 (spanV p).cells.toList = some [.int .u64 p.1,.int .u64 p.2]:=by
  have k1:Tryz.prog.keyLits (f+1) 23 [.int .u64 p.1] = some [.int .u64 p.1]:=by unfold Program.keyLits;simp only [u3];rw [if_pos ⟨trivial,w1⟩]
  have k2:Tryz.prog.keyLits (f+1) 23 [.int .u64 p.2] = some [.int .u64 p.2]:=by unfold Program.keyLits;simp only [u3];rw [if_pos ⟨trivial,w2⟩]
  unfold Program.keyLits
  simp only [u1,spanV,Value.cells,hc]
  simp [c2,k1,k2]
 rw [hl]
 rfl
theorem keyS_lit (p:Int × Int):WideAt.IsKeyLit (keyS p):=trivial
theorem keyS_inj {p q:Int × Int} (hp:PB p) (hq:PB q) (h:keyS p = keyS q):p = q:=by
 have:=span_law.inj (keyS_of p hp) (h ▸ keyS_of q hq)
 unfold spanV at this
 simp at this
 obtain ⟨a,b⟩:=p
 obtain ⟨c,d⟩:=q
 simp at this ⊢
 exact this
def saidL:List ((Int × Int) × List UInt8) → (Int × Int) → Option (List UInt8)
 | [],_ => none
 | x :: r,p => match saidL r p with
  | some h => some h
  | none => if x.1 = p then some x.2 else none
theorem saidL_snoc:∀ (m:List ((Int × Int) × List UInt8)) (x:(Int × Int) × List UInt8) (p:Int × Int),saidL (m ++ [x]) p = if x.1 = p then some x.2 else saidL m p
 | [],x,p => rfl
 | y :: r,x,p => by
  rw [List.cons_append,saidL,saidL_snoc r x p,saidL]
  by_cases h:x.1 = p
  ·rw [if_pos h,if_pos h]
  ·rw [if_neg h,if_neg h]
def saidD (m:List ((Int × Int) × List UInt8)):DataW Unit:=m.foldl (fun d x => d.put (keyS x.1) (.lit (.string x.2))) (.map [])
theorem saidD_nil:saidD [] = .map []:=rfl
theorem saidD_snoc (m:List ((Int × Int) × List UInt8)) (x:(Int × Int) × List UInt8):saidD (m ++ [x]) = (saidD m).put (keyS x.1) (.lit (.string x.2)):=by unfold saidD;rw [List.foldl_append];rfl
theorem list_snoc {α:Type} {Q:List α → Prop} (h0:Q []) (hs:∀ r x,Q r → Q (r ++ [x])) (l:List α):Q l:=by
 have:∀ l:List α,Q l.reverse:=fun l => by
  induction l with
  | nil => exact h0
  | cons x r ih => rw [List.reverse_cons];exact hs _ _ ih
 have:=this l.reverse
 rwa [List.reverse_reverse] at this
theorem saidD_isMap (m:List ((Int × Int) × List UInt8)):Maps.IsMap (saidD m) :=
 list_snoc (Q:=fun m => Maps.IsMap (saidD m)) Maps.isMap_empty (fun r x ih => by rw [saidD_snoc];exact ih.put _ _) m
theorem saidD_at (m:List ((Int × Int) × List UInt8)) (hm:∀ x ∈ m,PB x.1) (p:Int × Int) (hp:PB p) (z:DataW Unit) :
 (saidD m).atKey (keyS p) z = (match saidL m p with | some h => .lit (.string h) | none => z) ∧ Maps.has (saidD m) (keyS p) = (saidL m p).isSome:=by
 revert hm
 refine list_snoc (Q:=fun m => (∀ x ∈ m,PB x.1) → (saidD m).atKey (keyS p) z = (match saidL m p with | some h => .lit (.string h) | none => z) ∧ Maps.has (saidD m) (keyS p) = (saidL m p).isSome) (fun _ => ⟨rfl,rfl⟩) ?_ m
 ·intro r x ih hm
  have ih:=ih (fun y hy => hm y (by simp [hy]))
  rw [saidD_snoc,saidL_snoc]
  by_cases h:x.1 = p
  ·rw [if_pos h,← h,Maps.atKey_put_same (saidD_isMap r) (keyS_lit _),Maps.has_put_same (saidD_isMap r) (keyS_lit _)]
   exact ⟨rfl,rfl⟩
  ·have hne:keyS p ≠ keyS x.1:=fun e => h (keyS_inj hp (hm x (by simp)) e).symm
   rw [if_neg h,Maps.atKey_put_other hne,Maps.has_put_other hne]
   exact ih
def SaidAt (w:World) (b:Nat) (m:List ((Int × Int) × List UInt8)):Prop:=(∀ x ∈ m,PB x.1 ∧ x.2.length = 32) ∧ w.ownsMap Tryz.prog 84 hashR b m.length (saidD m)
theorem SaidAt.below {w w':World} {b B:Nat} {m:List ((Int × Int) × List UInt8)} (h:SaidAt w b m) (hb:Below B w w') (hB:b < B):SaidAt w' b m:=by
 obtain ⟨h1,es,clock,h2,h3⟩:=h
 exact ⟨h1,es,clock,(hb.block b hB).trans h2,h3⟩
theorem SaidAt.lt {w:World} {b:Nat} {m:List ((Int × Int) × List UInt8)} (h:SaidAt w b m):b < w.heap.size:=h.2.lt
theorem said_look {w:World} {b:Nat} {m:List ((Int × Int) × List UInt8)} (h:SaidAt w b m) (p:Int × Int) (hp:PB p) :
 (Instr.lookup 68 (.map (some b)) (spanV p) true).run Tryz.prog w = .ok (.tuple #[hv ((saidL m p).getD zeroH),.bool (saidL m p).isSome]) w:=by
 obtain ⟨v,ps,hr,hv'⟩:=h.2.look_ok span_law Tryz.underlying68 (z:=hv zeroH) (by rw [zeroH_v];exact Tryz.zeroValue39 w) (hashR_hv zeroH_length) (keyS_of p hp)
 have ha:=saidD_at m (fun x hx => (h.1 x hx).1) p hp (.lit (.string zeroH))
 rw [ha.1] at hv'
 rw [ha.2] at hr
 rw [hr]
 cases q:saidL m p with
 | none => rw [q] at hv';rw [(hashR_inv hv').2];rfl
 | some l => rw [q] at hv';rw [(hashR_inv hv').2];rfl
attribute [irreducible] saidD keyS hashR
/- forge.laid: hashes by their stretches. No condition. -/
theorem wp_mapUpdate_said {o:Oper} {a:Act} {w:World} {K:Act → World → Prop} {Q:Exit → Act → World → Prop} (m x v:Operand) (ho:o.op = .mapUpdate 68 m x v) (b n:Nat) (D:DataW Unit) (hm:a.eval m = .map (some b)) (hown:w.ownsMap Tryz.prog 84 hashR b n D) (hn:n < maxLen)
 (p:Int × Int) (hp:PB p) (l:List UInt8) (hl:l.length = 32) (hx:a.eval x = spanV p) (hv':a.eval v = hv l)
 (h:∀ w',w'.ownsMap Tryz.prog 84 hashR b (n+1) (D.put (keyS p) (.lit (.string l))) → w.grownBy w' (some b) → K (a.put o.dst undef) w'):o.wp Tryz.prog a w K Q:=by
 obtain ⟨w',hrun,r1,r2⟩:=hown.update span_law Tryz.underlying68 hn (keyS_of p hp) (hashR_hv hl)
 unfold Oper.wp
 simp [execOp,ho,hm,hx,hv',hrun,Result.andThen]
 exact h w' r1 r2
theorem spans_PB {l:List (Int × Int)} {P:List (List UInt8)} (h:∀ p ∈ l,PB p) (h32:H32 P):∀ x ∈ l.zip P,PB x.1 ∧ x.2.length = 32:=fun x hx => ⟨h _ (List.of_mem_zip hx).1,h32 _ (List.of_mem_zip hx).2⟩
theorem laid_any' (l:List (Int × Int)) (P:List (List UInt8)) (sv:Value) (A:Option Addr) (n c:Nat) (w:World) (hs:Rd w sv 2 n (spanCells l)) (hl:l.length = n) (hp:HIn w A n c P) (hb:∀ p ∈ l,PB p) (hn:n ≤ 1000000000) :
 Calls Tryz.prog 26 #[sv,.slice A n c] w fun ev w' => ev = .returned (.map (some w.heap.size)) ∧ SaidAt w' w.heap.size (l.zip P) ∧ Below w.heap.size w w':=by
 obtain ⟨_,As,cs,rfl,hsr⟩:=hs
 have HSR:=hid hsr
 have HP:=hid hp
 have HLN:=hid hl
 have HPB:=hid hb
 have HZ:=hid (spans_PB hb hp.1)
 have HZL:Hid ((l.zip P).length = n):=hid (by rw [List.length_zip,hl,hp.2.1];simp)
 have hmm:=@run_makeMap Tryz.prog
 have M0:Hid (SaidAt (w.alloc (.map #[] 0)) w.heap.size []):=hid ⟨by simp,by rw [saidD_nil];exact World.ownsMap_made _ _ _ _⟩
 have hB0:Hid (Below w.heap.size w (w.alloc (.map #[] 0))):=hid ((Below.refl _ _).alloc (Nat.le_refl _) _)
 obtain ⟨M,hM⟩:∃ M,w.heap.size = M:=⟨_,rfl⟩
 have HM:=hid hM
 rw [hM] at M0
 clear hsr hp hl hb hM
 go_enter Tryz.func26,Tryz.ntmps26
 go_wp2_with fail
 rw [HM.out]
 clear hmm
 go_loopw [13] (fun i wr => ∃ k:Nat,k ≤ n ∧ i = .int .i64 k ∧ Hid (SaidAt wr M ((l.zip P).take k)) ∧ Hid (Below w.heap.size w wr)) (fun i _ => n - (intOf i).toNat)
 case atStart => exact ⟨0,Nat.zero_le _,rfl,M0,hB0⟩
 case round =>
  obtain ⟨k,hk,rfl,HS,HB⟩:=hrel
  by_cases hlt:k < n
  ·obtain ⟨⟨sb,se⟩,hp⟩:∃ p,l[k]? = some p:=⟨_,List.getElem?_eq_getElem (by have:=HLN.out;omega)⟩
   obtain ⟨y,hy⟩:∃ y,P[k]? = some y:=⟨_,List.getElem?_eq_getElem (by have:=HP.out.2.1;omega)⟩
   obtain ⟨g,rfl,hcc⟩:∃ g,As = some ⟨g,0,none⟩ ∧ ∀ j u,(spanCells l)[j]? = some u → w.cell? ⟨g,j,none⟩ = some u:=by
    rcases HSR.out with z | z
    ·omega
    ·exact z
   obtain ⟨gh,oh,rfl,glh,rp,pl⟩:=HP.out.row hy
   have hat:=spanCells_at l k (sb,se) hp
   have s0:=cell_below HB.out (hcc _ _ hat.1) (block_of_cell (hcc _ _ hat.1))
   have s1:=cell_below HB.out (hcc _ _ hat.2) (block_of_cell (hcc _ _ hat.2))
   simp only at s0 s1
   have hgs:g < M:=by rw [← HM.out];exact block_of_cell (hcc _ _ hat.1)
   have HMW:Hid (M ≤ wr.heap.size):=hid (by rw [← HM.out];exact HB.out.size)
   have HTK:Hid ((l.zip P).take (k+1) = (l.zip P).take k ++ [((sb,se),y)]):=hid (by
    rw [List.take_add_one,(List.getElem?_zip_eq_some (z:=((sb,se),y))).2 ⟨hp,hy⟩];rfl)
   obtain ⟨pp,hpp⟩:∃ q,bytesV y = q:=⟨_,rfl⟩
   have HPP:=hid hpp
   have HYL:=hid pl
   have HIP:Hid ((Tryz.prog.info? 39).map (·.size) = some pp.length):=hid (by rw [← hpp,bytesV_length,pl];kernel_rfl)
   have KP:Hid (∀ w',Below M wr w' → w'.rangeAt gh (oh+k * 32) pp):=hid (fun w' h => by
    rw [← hpp]
    exact rangeAt_below h (rangeAt_below HB.out rp glh) (by rw [← HM.out];exact glh))
   have HPBk:Hid (PB (sb,se)):=hid (HPB.out _ (List.mem_of_getElem? hp))
   have HO:Hid (((∀ x ∈ (l.zip P).take k,PB x.1 ∧ x.2.length = 32)) ∧ wr.ownsMap Tryz.prog 84 hashR M k (saidD ((l.zip P).take k))):=hid (by
    have:=HS.out
    unfold SaidAt at this
    rw [List.length_take,HZL.out,Nat.min_eq_left hk] at this
    exact this)
   have i0:(0:Int) ≤ k:=by omega
   have i1:(k:Int) < n:=by omega
   clear hp hy hat hcc rp glh pl hpp
   go_wp2_with fail
   refine wp_region_held_drew (S:=Below M wr) (by kernel_rfl) (Below.refl M wr).drew (fun hHeld => ?_)
   refine tk (i:=0) (v:=?v1) rfl ?y1 ?r1
   case y1 => (intro w hSw;(try dsimp only at hSw);go_simp;(try with_reducible rfl))
   try simp only [pu]
   refine tk (i:=1) (v:=?v2) rfl ?y2 ?r2
   case y2 => (intro w hSw;(try dsimp only at hSw);go_simp;(try with_reducible rfl))
   try simp only [pu]
   refine tk (i:=2) (v:=?v3) rfl ?y3 ?r3
   case y3 => (intro w hSw;(try dsimp only at hSw);go_simp;(try with_reducible rfl))
   try simp only [pu]
   refine tk (i:=3) (v:=?v4) rfl ?y4 ?r4
   case y4 => (intro w hSw;(try dsimp only at hSw);go_simp;(try with_reducible rfl))
   try simp only [pu]
   refine tk (i:=4) (v:=?v5) rfl ?y5 ?r5
   case y5 => (intro w hSw;(try dsimp only at hSw);have q0:=cell_below hSw s0 hgs;have q1:=cell_below hSw s1 hgs;go_simp;(try with_reducible rfl))
   try simp only [pu]
   refine tk (i:=5) (v:=?v6) rfl ?y6 ?r6
   case y6 => (intro w hSw;(try dsimp only at hSw);go_simp;(try with_reducible rfl))
   try simp only [pu]
   refine tk (i:=6) (v:=?v7) rfl ?y7 ?r7
   case y7 => (intro w hSw;(try dsimp only at hSw);go_simp;(try with_reducible rfl))
   try simp only [pu]
   refine tk (i:=7) (v:=?v8) rfl ?y8 ?r8
   case y8 => (intro w hSw;(try dsimp only at hSw);go_simp;(try with_reducible rfl))
   try simp only [pu]
   refine tw (i:=8) rfl (yieldsIf_load_mid (by rfl) 39 _ (by rfl) gh (oh+k * 32) (by first | rfl | simp) pp _ (fun w h => KP.out w h) Tryz.underlying39 (by rfl) HIP.out) ?_
   try simp only [pu]
   refine wpAnyH_ready (rs:=[9]) (by kernel_rfl) (by simp) ?_
   refine AllReadyH.cons (i:=9) rfl (fun K2 hK2 => ?_) AllReadyH.nil
   rw [if_pos (by rfl)]
   refine wp_mapUpdate_said _ _ _ rfl M k _ rfl HO.out.2.drew (by unfold maxLen;omega) (sb,se) HPBk.out y HYL.out rfl (by rw [hv,HPP.out];rfl) ?_
   intro w9 hown9 hgrow9
   have HN9:=hid (And.intro hown9 hgrow9)
   clear hown9 hgrow9
   refine hK2.out _ _ (show Below M wr w9 from ((Below.refl M wr).drew).grown HN9.out.2 (by have:=HMW.out;exact this) (fun q hq => by cases hq;exact Nat.le_refl _)) (fun hHeld2 => ?_)
   clear hK2 K2
   try simp only [Act.put,List.getElem_toArray,List.getElem_cons_zero,List.getElem_cons_succ]
   refine wpAnyH_done (by kernel_rfl) ?_ _
   have HS9:Hid (SaidAt w9 M ((l.zip P).take (k+1))):=hid (by
    refine ⟨fun x hx => HZ.out x (List.mem_of_mem_take hx),?_⟩
    rw [List.length_take,HZL.out,Nat.min_eq_left (by omega),HTK.out,saidD_snoc]
    exact HN9.out.1)
   have HB9:Hid (Below w.heap.size w w9):=hid (HB.out.drew.grown HN9.out.2 (by have:=HB.out.size;exact this) (fun q hq => by cases hq;rw [← HM.out];exact Nat.le_refl _))
   go_wp2_with fail
   go_roundw
   case rel => exact ⟨k+1,by omega,by go_num,HS9,HB9⟩
   case measure => simp [intOf];omega
  ·obtain rfl:n = k:=by omega
   have HT:Hid ((l.zip P).take n = l.zip P):=hid (List.take_of_length_le (by rw [HZL.out];exact Nat.le_refl _))
   rw [HT.out] at HS
   go_wp2
   go_ret
   exact ⟨by rw [HM.out];rfl,by rw [HM.out];exact HS.out,HB.out⟩
/- What a claim says of the stretches of a tree, and where it parts from the log: plain. No program in sight. -/
section
variable (said:Int × Int → Option (List UInt8)) (lv:Int → List UInt8)
def fSays:Nat → Int → Int → List UInt8
 | 0,b,e => match said (b,e) with | some h => h | none => lv b
 | f+1,b,e => match said (b,e) with
  | some h => h
  | none => if e - b < 2 then lv b else nodeH (fSays f b (b+blwI (e - b))) (fSays f (b+blwI (e - b)) e)
def fBare:Nat → Int → Int → Int → Prop
 | 0,b,e,i => said (b,e) = none ∧ i = b
 | f+1,b,e,i => said (b,e) = none ∧ (if e - b < 2 then i = b else fBare f b (b+blwI (e - b)) i ∨ fBare f (b+blwI (e - b)) e i)
variable (L:List ByteArray) (xt yt:Int → List UInt8)
def fWalk:Nat → Int → Int → Option (List UInt8 × List UInt8)
 | 0,b,e => match said (b,e) with | some _ => none | none => if xt b = yt b then none else some (0 :: xt b,0 :: yt b)
 | f+1,b,e => match said (b,e) with
  | some _ => none
  | none => if e - b < 2 then (if xt b = yt b then none else some (0 :: xt b,0 :: yt b))
   else if treeB L b (b+blwI (e - b)) ++ treeB L (b+blwI (e - b)) e = fSays said lv f b (b+blwI (e - b)) ++ fSays said lv f (b+blwI (e - b)) e then
    (match fWalk f b (b+blwI (e - b)) with | some r => some r | none => fWalk f (b+blwI (e - b)) e)
   else some (1 :: (treeB L b (b+blwI (e - b)) ++ treeB L (b+blwI (e - b)) e),1 :: (fSays said lv f b (b+blwI (e - b)) ++ fSays said lv f (b+blwI (e - b)) e))
theorem fSays_len (hs:∀ p h,said p = some h → h.length = 32) (hl:∀ i,(lv i).length = 32):∀ (f:Nat) (b e:Int),(fSays said lv f b e).length = 32
 | 0,b,e => by
  unfold fSays
  cases q:said (b,e) with
  | none => exact hl b
  | some h => exact hs _ _ q
 | f+1,b,e => by
  unfold fSays
  cases q:said (b,e) with
  | none => simp only; split
            ·exact hl b
            ·exact nodeH_length _ _
  | some h => exact hs _ _ q
theorem tree_node {b e:Int} (h:2 ≤ e - b) (hm:e - b ≤ pow2 64):treeB L b e = nodeH (treeB L b (b+blwI (e - b))) (treeB L (b+blwI (e - b)) e):=by
 have hb:=blwI_bd (n:=e - b) (by omega)
 unfold treeB
 rw [if_neg (by omega),if_neg (by omega),if_neg (by omega)]
 exact treeT_node nodeH (leafG L) b e h hm
theorem tree_leaf {b e:Int} (h0:b < e) (h:e - b < 2):treeB L b e = leafG L b:=by
 unfold treeB;rw [if_neg (by omega),treeT_leaf nodeH _ _ _ (by omega)]
variable (hx:∀ i,leafG L i = shaB (0 :: xt i)) (hy:∀ i,lv i = shaB (0 :: yt i)) (hs:∀ p h,said p = some h → h.length = 32)
include hx hy hs
theorem fWalk_two:∀ (f:Nat) (b e:Int),b < e → e - b ≤ pow2 f → f ≤ 64 → said (b,e) = none → fSays said lv f b e = treeB L b e → ∀ r,fWalk said lv L xt yt f b e = some r → r.1 ≠ r.2 ∧ shaB r.1 = shaB r.2
 | 0,b,e,h0,hp,h64,hn,hq,r,hr => by
  rw [fWalk,hn] at hr
  simp only at hr
  split at hr
  ·cases hr
  ·rename_i hne
   cases hr
   rw [fSays,hn] at hq
   simp only at hq
   rw [pow2_zero] at hp
   rw [tree_leaf L h0 (by omega)] at hq
   exact ⟨fun q => hne (by simpa using q),by rw [← hx,← hy,hq]⟩
 | f+1,b,e,h0,hp,h64,hn,hq,r,hr => by
  have hll:∀ i,(lv i).length = 32:=fun i => by rw [hy];exact shaB_length _
  rw [fWalk,hn] at hr
  simp only at hr
  rw [fSays,hn] at hq
  simp only at hq
  by_cases h2:e - b < 2
  ·rw [if_pos h2] at hr hq
   split at hr
   ·cases hr
   ·rename_i hne
    cases hr
    rw [tree_leaf L h0 h2] at hq
    exact ⟨fun q => hne (by simpa using q),by rw [← hx,← hy,hq]⟩
  ·have hb:=blwI_bd (n:=e - b) (by omega)
   have hk:=blwI_le_pow (n:=e - b) (f:=f) (by omega) hp
   have hps:=pow2_succ f
   have hp64:e - b ≤ pow2 64:=Int.le_trans hp (pow2_le (by omega))
   rw [if_neg h2] at hr hq
   split at hr
   ·rename_i heq
    have hl:=List.append_inj heq (by rw [treeB_len,fSays_len said lv hs hll])
    have hA:∀ r,fWalk said lv L xt yt f b (b+blwI (e - b)) = some r → r.1 ≠ r.2 ∧ shaB r.1 = shaB r.2:=fun r hr => by
     cases q:said (b,b+blwI (e - b)) with
     | none => exact fWalk_two f b _ (by omega) (by omega) (by omega) q hl.1.symm r hr
     | some h => cases f <;> (rw [fWalk,q] at hr;cases hr)
    have hB:∀ r,fWalk said lv L xt yt f (b+blwI (e - b)) e = some r → r.1 ≠ r.2 ∧ shaB r.1 = shaB r.2:=fun r hr => by
     cases q:said (b+blwI (e - b),e) with
     | none => exact fWalk_two f _ e (by omega) (by omega) (by omega) q hl.2.symm r hr
     | some h => cases f <;> (rw [fWalk,q] at hr;cases hr)
    cases q:fWalk said lv L xt yt f b (b+blwI (e - b)) with
    | some r1 => rw [q] at hr;simp only at hr;obtain rfl:=Option.some.inj hr;exact hA _ q
    | none => rw [q] at hr;simp only at hr;exact hB r hr
   ·rename_i hne
    cases hr
    refine ⟨fun q => hne (by simpa using q),?_⟩
    rw [← nodeH_eq,← nodeH_eq,hq,tree_node L (by omega) hp64]
end
theorem saidL_none:∀ (a:List ((Int × Int) × List UInt8)) (p:Int × Int),(∀ x ∈ a,x.1 ≠ p) → saidL a p = none
 | [],p,_ => rfl
 | x :: r,p,h => by
  rw [saidL,saidL_none r p (fun y hy => h y (by simp [hy])),if_neg (h x (by simp))]
theorem saidL_mem:∀ {a:List ((Int × Int) × List UInt8)} {p:Int × Int} {h:List UInt8},saidL a p = some h → ∃ x ∈ a,x.2 = h
 | [],p,h,q => by cases q
 | x :: r,p,h,q => by
  rw [saidL] at q
  cases z:saidL r p with
  | some y =>
   rw [z] at q
   obtain rfl:=Option.some.inj q
   obtain ⟨u,hu,e⟩:=saidL_mem z
   exact ⟨u,by simp [hu],e⟩
  | none =>
   rw [z] at q
   simp only at q
   split at q
   ·obtain rfl:=Option.some.inj q
    exact ⟨x,by simp,rfl⟩
   ·cases q
theorem zip_ne {l:List (Int × Int)} {P:List (List UInt8)} {p:Int × Int} (h:∀ s ∈ l,s ≠ p):saidL (l.zip P) p = none :=
 saidL_none _ _ (fun x hx => h _ (List.of_mem_zip hx).1)
/- forge.claim.part: the cut of a stretch. No condition. -/
theorem results_row_row_tmp {P:Program} {fn:Func} {p q u:Tmp} {ty ty2:TypeId} (h:fn.results = #[.cell p ty,.cell q ty2,.tmp u]) (tmps:Array Value) (w:World) (g g2:Nat) (t t2:TypeId) (cs cs2:Array Value) (fr fr2:Nat × Nat) (d:TypeDesc)
 (hp:tmps.getD p undef = .pointer (some ⟨g,0,none⟩)) (hg:w.heap[g]? = some (.cells cs t fr)) (hp2:tmps.getD q undef = .pointer (some ⟨g2,0,none⟩)) (hg2:w.heap[g2]? = some (.cells cs2 t2 fr2))
 (hu:P.underlying ty = some d) (hd:(match d with | .struct _ | .array _ _ => true | _ => false) = true) (hi:(P.info? ty).map (·.size) = some cs.size) (hi2:(P.info? ty).map (·.size) = some cs2.size) (x:Value) (hx:tmps.getD u undef = x) (ht:ty = ty2:=by rfl) :
 (results fn tmps).run P w = .ok (.tuple #[.agg cs,.agg cs2,x]) w:=by
 subst hx ht
 rw [Array.getD_eq_getD_getElem?] at hp hp2
 simp only [results,h]
 simp [Sem.run_bind,hp,hp2,asAddr,run_loadVar_row w g t ty cs fr d hg hu hd hi,run_loadVar_row w g2 t2 ty cs2 fr2 d hg2 hu hd hi2,Result.andThen]
theorem cut_more (b e k:Int) (w:World) (h0:0 ≤ b) (h1:b < e) (h9:e ≤ 9223372036854775808) (h2:2 ≤ e - b) (hk:blwI (e - b) = k) :
 Calls Tryz.prog 56 #[.agg #[.int .u64 b,.int .u64 e]] w fun ev w' => ev = .returned (.tuple #[.agg #[.int .u64 b,.int .u64 (b+k)],.agg #[.int .u64 (b+k),.int .u64 e],.bool true]) ∧ Below w.heap.size w w':=by
 have hb:=blwI_bd (n:=e - b) h2
 rw [hk] at hb
 have HSP:=hid (fun w => split_yes (e - b) w h2 (by omega))
 rw [hk] at HSP
 obtain ⟨x0,hx0⟩:∃ x,w.heap.size = x:=⟨_,rfl⟩
 obtain ⟨wv,hwv⟩:∃ x,((w.alloc (.cells #[.int .u64 b,.int .u64 e] 84)).alloc (.cells #[.int .u64 0,.int .u64 0] 84)).alloc (.cells #[.int .u64 0,.int .u64 0] 84) = x:=⟨_,rfl⟩
 have HB:Hid (Below x0 w wv):=hid (by rw [← hwv,← hx0];exact (((Below.refl _ _).alloc (Nat.le_refl _) _).alloc (by simp) _).alloc (by simp;omega) _)
 have hS:wv.heap.size = x0+3:=by rw [← hwv,← hx0];simp
 have hr0:wv.heap[x0]? = some (.cells #[.int .u64 b,.int .u64 e] 84 (0,0)):=by
  rw [← hwv,← hx0,((((Below.refl _ (w.alloc (.cells #[.int .u64 b,.int .u64 e] 84))).alloc (Nat.le_refl _) _)).alloc (by simp) _).block w.heap.size (by simp)];exact heap_at _ _ _ rfl
 have R1:Hid (wv.heap[x0+1]? = some (.cells #[.int .u64 0,.int .u64 0] 84 (0,0))):=hid (by
  rw [← hwv,← hx0,((Below.refl _ _).alloc (Nat.le_refl _) _).block (w.heap.size+1) (by simp)];exact heap_at _ _ _ (by simp))
 have R2:Hid (wv.heap[x0+1+1]? = some (.cells #[.int .u64 0,.int .u64 0] 84 (0,0))):=hid (by rw [← hwv,← hx0];exact heap_at _ _ _ (by simp))
 have s0:wv.cell? ⟨x0,0,none⟩ = some (.int .u64 b):=by rw [cell_of_row wv x0 0 _ 84 (0,0) hr0];rfl
 have s1:wv.cell? ⟨x0,1,none⟩ = some (.int .u64 e):=by rw [cell_of_row wv x0 1 _ 84 (0,0) hr0];rfl
 have KS:Hid (∀ w',But (fun q => q = x0+1 ∨ q = x0+1+1) wv w' → w'.cell? ⟨x0,0,none⟩ = some (.int .u64 b) ∧ w'.cell? ⟨x0,1,none⟩ = some (.int .u64 e)):=hid (fun w' h => ⟨h.cell s0 (by show ¬ (x0 = x0+1 ∨ x0 = x0+1+1);omega),h.cell s1 (by show ¬ (x0 = x0+1 ∨ x0 = x0+1+1);omega)⟩)
 have HWV:=hid hwv
 have X0:=hid hx0
 have HSV:=hid hS
 have hbe:b ≤ e:=by omega
 have he9:e - b < 18446744073709551616:=by omega
 have hwk:IntKind.u64.wrap (b+k) = b+k:=IntWalk.u64_in _ (by omega)
 have hbx:(Tryz.prog.info? 84).map (·.size) = some 2:=by kernel_rfl
 clear hwv hS hr0 h1 h9 h2 hk hb
 go_enter Tryz.func56,Tryz.ntmps56
 go_upto_region 1 with fail
 rw [HWV.out]
 (try simp only [hx0])
 go_wp2_with fail
 refine (HSP.out _).mono ?_
 rintro ev w' ⟨rfl,rfl⟩
 clear s0 s1
 go_upto_region 2 with fail
 refine wp_region_held_drew (S:=But (fun q => q = x0+1 ∨ q = x0+1+1) wv) (by kernel_rfl) (But.refl (fun q => q = x0+1 ∨ q = x0+1+1) wv).drew (fun hHeld => ?_)
 refine tk (i:=0) (v:=?v1) rfl ?y1 ?r1
 case y1 => (intro w hSw;(try dsimp only at hSw);go_simp;(try with_reducible rfl))
 try simp only [pu]
 refine tk (i:=1) (v:=?v2) rfl ?y2 ?r2
 case y2 => (intro w hSw;(try dsimp only at hSw);have q0:=(KS.out w hSw).1;have q1:=(KS.out w hSw).2;go_simp;(try with_reducible rfl))
 try simp only [pu]
 refine tk (i:=2) (v:=?v3) rfl ?y3 ?r3
 case y3 => (intro w hSw;(try dsimp only at hSw);go_simp;(try with_reducible rfl))
 try simp only [pu]
 refine tk (i:=3) (v:=?v4) rfl ?y4 ?r4
 case y4 => (intro w hSw;(try dsimp only at hSw);have q0:=(KS.out w hSw).1;have q1:=(KS.out w hSw).2;go_simp;(try with_reducible rfl))
 try simp only [pu]
 refine tk (i:=4) (v:=?v5) rfl ?y5 ?r5
 case y5 => (intro w hSw;(try dsimp only at hSw);go_simp;(try with_reducible rfl))
 try simp only [pu]
 refine tk (i:=5) (v:=?v6) rfl ?y6 ?r6
 case y6 => (intro w hSw;(try dsimp only at hSw);go_simp;(try with_reducible rfl))
 try simp only [pu]
 refine tk (i:=6) (v:=?v7) rfl ?y7 ?r7
 case y7 => (intro w hSw;(try dsimp only at hSw);go_simp;(try with_reducible rfl))
 try simp only [pu]
 refine tk (i:=7) (v:=?v8) rfl ?y8 ?r8
 case y8 => (intro w hSw;(try dsimp only at hSw);go_simp;(try with_reducible rfl))
 try simp only [pu]
 refine tk (i:=8) (v:=?v9) rfl ?y9 ?r9
 case y9 => (intro w hSw;(try dsimp only at hSw);have q0:=(KS.out w hSw).1;have q1:=(KS.out w hSw).2;go_simp;(try with_reducible rfl))
 try simp only [pu]
 refine tk (i:=9) (v:=?v10) rfl ?y10 ?r10
 case y10 => (intro w hSw;(try dsimp only at hSw);go_simp;(try with_reducible rfl))
 try simp only [pu]
 refine tk (i:=10) (v:=?v11) rfl ?y11 ?r11
 case y11 => (intro w hSw;(try dsimp only at hSw);go_simp;(try with_reducible rfl))
 try simp only [pu]
 refine tk (i:=11) (v:=?v12) rfl ?y12 ?r12
 case y12 => (intro w hSw;(try dsimp only at hSw);go_simp;(try with_reducible rfl))
 try simp only [pu]
 refine tk (i:=12) (v:=?v13) rfl ?y13 ?r13
 case y13 => (intro w hSw;(try dsimp only at hSw);have q0:=(KS.out w hSw).1;have q1:=(KS.out w hSw).2;go_simp;(try with_reducible rfl))
 try simp only [pu]
 refine tk (i:=13) (v:=?v14) rfl ?y14 ?r14
 case y14 => (intro w hSw;(try dsimp only at hSw);go_simp;(try with_reducible rfl))
 try simp only [pu]
 refine tk (i:=14) (v:=?v15) rfl ?y15 ?r15
 case y15 => (intro w hSw;(try dsimp only at hSw);go_simp;(try with_reducible rfl))
 try simp only [pu]
 refine wpAnyH_ready (rs:=[15]) (by kernel_rfl) (by simp) ?_
 refine AllReadyH.cons (i:=15) rfl (fun K2 hK2 => ?_) AllReadyH.nil
 rw [if_pos (by rfl)]
 refine wp_store_row 84 _ _ rfl (x0+1) #[.int .u64 b,.int .u64 (b+k)] rfl rfl 84 _ (R1.out) (by kernel_rfl) rfl (by simp [Value.oneCell']) ?_
 refine hK2.out _ _ (show But (fun q => q = x0+1 ∨ q = x0+1+1) wv _ from ((But.refl (fun q => q = x0+1 ∨ q = x0+1+1) wv).drew.setRow (x0+1) #[.int .u64 b,.int .u64 (b+k)] (fun _ => by omega))) (fun hHeld2 => ?_)
 clear hK2 K2
 try simp only [pu]
 refine wpAnyH_ready (rs:=[16]) (by kernel_rfl) (by simp) ?_
 refine AllReadyH.cons (i:=16) rfl (fun K2 hK2 => ?_) AllReadyH.nil
 rw [if_pos (by rfl)]
 refine wp_store_row 84 _ _ rfl (x0+1+1) #[.int .u64 (b+k),.int .u64 e] rfl rfl 84 _ ((setRow_other _ _ _ _ (by omega)).trans (R2.out)) (by kernel_rfl) rfl (by simp [Value.oneCell']) ?_
 refine hK2.out _ _ (show But (fun q => q = x0+1 ∨ q = x0+1+1) wv _ from (((But.refl (fun q => q = x0+1 ∨ q = x0+1+1) wv).drew.setRow (x0+1) #[.int .u64 b,.int .u64 (b+k)] (fun _ => by omega)).setRow (x0+1+1) #[.int .u64 (b+k),.int .u64 e] (fun _ => by omega))) (fun hHeld2 => ?_)
 clear hK2 K2
 try simp only [pu]
 refine tk (i:=17) (v:=?v16) rfl ?y16 ?r16
 case y16 => (intro w hSw;(try dsimp only at hSw);go_simp;(try with_reducible rfl))
 try simp only [pu]
 refine wpAnyH_done (by kernel_rfl) ?_ _
 clear hHeld hHeld2
 go_wp2_with fail
 refine bodyPost_ret (v:=.tuple #[.agg #[.int .u64 b,.int .u64 (b+k)],.agg #[.int .u64 (b+k),.int .u64 e],.bool true]) (results_row_row_tmp rfl _ _ (x0+1) (x0+1+1) 84 84 #[.int .u64 b,.int .u64 (b+k)] #[.int .u64 (b+k),.int .u64 e] (0,0) (0,0) _ rfl ((setRow_other _ _ _ _ (by omega)).trans (setRow_heap wv.drew _ _ _ _ _ R1.out)) rfl (setRow_heap _ _ _ _ _ _ ((setRow_other wv.drew _ _ _ (by omega)).trans R2.out)) Tryz.underlying84 rfl (by kernel_rfl) (by kernel_rfl) _ rfl) rfl ⟨rfl,?_⟩
 rw [X0.out]
 exact below_setRow (below_setRow (show Below x0 w wv.drew from HB.out.drew) _ _ (by omega)) _ _ (by omega)
theorem cut_none (b e:Int) (w:World) (h0:0 ≤ b) (h1:b < e) (h9:e ≤ 9223372036854775808) (h2:e - b < 2) :
 Calls Tryz.prog 56 #[.agg #[.int .u64 b,.int .u64 e]] w fun ev w' => ev = .returned (.tuple #[.agg #[.int .u64 b,.int .u64 b],.agg #[.int .u64 b,.int .u64 e],.bool false]) ∧ Below w.heap.size w w':=by
 skip
 skip
 have HSP:=hid (fun w => split_no (e - b) w (by omega) (by omega) (.inl h2))
 skip
 obtain ⟨x0,hx0⟩:∃ x,w.heap.size = x:=⟨_,rfl⟩
 obtain ⟨wv,hwv⟩:∃ x,((w.alloc (.cells #[.int .u64 b,.int .u64 e] 84)).alloc (.cells #[.int .u64 0,.int .u64 0] 84)).alloc (.cells #[.int .u64 0,.int .u64 0] 84) = x:=⟨_,rfl⟩
 have HB:Hid (Below x0 w wv):=hid (by rw [← hwv,← hx0];exact (((Below.refl _ _).alloc (Nat.le_refl _) _).alloc (by simp) _).alloc (by simp;omega) _)
 have hS:wv.heap.size = x0+3:=by rw [← hwv,← hx0];simp
 have hr0:wv.heap[x0]? = some (.cells #[.int .u64 b,.int .u64 e] 84 (0,0)):=by
  rw [← hwv,← hx0,((((Below.refl _ (w.alloc (.cells #[.int .u64 b,.int .u64 e] 84))).alloc (Nat.le_refl _) _)).alloc (by simp) _).block w.heap.size (by simp)];exact heap_at _ _ _ rfl
 have R1:Hid (wv.heap[x0+1]? = some (.cells #[.int .u64 0,.int .u64 0] 84 (0,0))):=hid (by
  rw [← hwv,← hx0,((Below.refl _ _).alloc (Nat.le_refl _) _).block (w.heap.size+1) (by simp)];exact heap_at _ _ _ (by simp))
 have R2:Hid (wv.heap[x0+1+1]? = some (.cells #[.int .u64 0,.int .u64 0] 84 (0,0))):=hid (by rw [← hwv,← hx0];exact heap_at _ _ _ (by simp))
 have s0:wv.cell? ⟨x0,0,none⟩ = some (.int .u64 b):=by rw [cell_of_row wv x0 0 _ 84 (0,0) hr0];rfl
 have s1:wv.cell? ⟨x0,1,none⟩ = some (.int .u64 e):=by rw [cell_of_row wv x0 1 _ 84 (0,0) hr0];rfl
 have KS:Hid (∀ w',But (fun q => q = x0+1 ∨ q = x0+1+1) wv w' → w'.cell? ⟨x0,0,none⟩ = some (.int .u64 b) ∧ w'.cell? ⟨x0,1,none⟩ = some (.int .u64 e)):=hid (fun w' h => ⟨h.cell s0 (by show ¬ (x0 = x0+1 ∨ x0 = x0+1+1);omega),h.cell s1 (by show ¬ (x0 = x0+1 ∨ x0 = x0+1+1);omega)⟩)
 have HWV:=hid hwv
 have X0:=hid hx0
 have HSV:=hid hS
 have hbe:b ≤ e:=by omega
 have he9:e - b < 18446744073709551616:=by omega
 have hwk:IntKind.u64.wrap b = b:=IntWalk.u64_in _ (by omega)
 have hbx:(Tryz.prog.info? 84).map (·.size) = some 2:=by kernel_rfl
 clear hwv hS hr0 h1 h9 h2
 go_enter Tryz.func56,Tryz.ntmps56
 go_upto_region 1 with fail
 rw [HWV.out]
 (try simp only [hx0])
 go_wp2_with fail
 refine (HSP.out _).mono ?_
 rintro ev w' ⟨rfl,rfl⟩
 clear s0 s1
 go_upto_region 2 with fail
 refine wp_region_held_drew (S:=But (fun q => q = x0+1 ∨ q = x0+1+1) wv) (by kernel_rfl) (But.refl (fun q => q = x0+1 ∨ q = x0+1+1) wv).drew (fun hHeld => ?_)
 refine tk (i:=0) (v:=?v17) rfl ?y17 ?r17
 case y17 => (intro w hSw;(try dsimp only at hSw);go_simp;(try with_reducible rfl))
 try simp only [pu]
 refine tk (i:=1) (v:=?v18) rfl ?y18 ?r18
 case y18 => (intro w hSw;(try dsimp only at hSw);have q0:=(KS.out w hSw).1;have q1:=(KS.out w hSw).2;go_simp;(try with_reducible rfl))
 try simp only [pu]
 refine tk (i:=2) (v:=?v19) rfl ?y19 ?r19
 case y19 => (intro w hSw;(try dsimp only at hSw);go_simp;(try with_reducible rfl))
 try simp only [pu]
 refine tk (i:=3) (v:=?v20) rfl ?y20 ?r20
 case y20 => (intro w hSw;(try dsimp only at hSw);have q0:=(KS.out w hSw).1;have q1:=(KS.out w hSw).2;go_simp;(try with_reducible rfl))
 try simp only [pu]
 refine tk (i:=4) (v:=?v21) rfl ?y21 ?r21
 case y21 => (intro w hSw;(try dsimp only at hSw);go_simp;(try with_reducible rfl))
 try simp only [pu]
 refine tk (i:=5) (v:=?v22) rfl ?y22 ?r22
 case y22 => (intro w hSw;(try dsimp only at hSw);go_simp;(try with_reducible rfl))
 try simp only [pu]
 refine tk (i:=6) (v:=?v23) rfl ?y23 ?r23
 case y23 => (intro w hSw;(try dsimp only at hSw);go_simp;(try with_reducible rfl))
 try simp only [pu]
 refine tk (i:=7) (v:=?v24) rfl ?y24 ?r24
 case y24 => (intro w hSw;(try dsimp only at hSw);go_simp;(try with_reducible rfl))
 try simp only [pu]
 refine tk (i:=8) (v:=?v25) rfl ?y25 ?r25
 case y25 => (intro w hSw;(try dsimp only at hSw);have q0:=(KS.out w hSw).1;have q1:=(KS.out w hSw).2;go_simp;(try with_reducible rfl))
 try simp only [pu]
 refine tk (i:=9) (v:=?v26) rfl ?y26 ?r26
 case y26 => (intro w hSw;(try dsimp only at hSw);go_simp;(try with_reducible rfl))
 try simp only [pu]
 refine tk (i:=10) (v:=?v27) rfl ?y27 ?r27
 case y27 => (intro w hSw;(try dsimp only at hSw);go_simp;(try with_reducible rfl))
 try simp only [pu]
 refine tk (i:=11) (v:=?v28) rfl ?y28 ?r28
 case y28 => (intro w hSw;(try dsimp only at hSw);go_simp;(try with_reducible rfl))
 try simp only [pu]
 refine tk (i:=12) (v:=?v29) rfl ?y29 ?r29
 case y29 => (intro w hSw;(try dsimp only at hSw);have q0:=(KS.out w hSw).1;have q1:=(KS.out w hSw).2;go_simp;(try with_reducible rfl))
 try simp only [pu]
 refine tk (i:=13) (v:=?v30) rfl ?y30 ?r30
 case y30 => (intro w hSw;(try dsimp only at hSw);go_simp;(try with_reducible rfl))
 try simp only [pu]
 refine tk (i:=14) (v:=?v31) rfl ?y31 ?r31
 case y31 => (intro w hSw;(try dsimp only at hSw);go_simp;(try with_reducible rfl))
 try simp only [pu]
 refine wpAnyH_ready (rs:=[15]) (by kernel_rfl) (by simp) ?_
 refine AllReadyH.cons (i:=15) rfl (fun K2 hK2 => ?_) AllReadyH.nil
 rw [if_pos (by rfl)]
 refine wp_store_row 84 _ _ rfl (x0+1) #[.int .u64 b,.int .u64 b] rfl rfl 84 _ (R1.out) (by kernel_rfl) rfl (by simp [Value.oneCell']) ?_
 refine hK2.out _ _ (show But (fun q => q = x0+1 ∨ q = x0+1+1) wv _ from ((But.refl (fun q => q = x0+1 ∨ q = x0+1+1) wv).drew.setRow (x0+1) #[.int .u64 b,.int .u64 b] (fun _ => by omega))) (fun hHeld2 => ?_)
 clear hK2 K2
 try simp only [pu]
 refine wpAnyH_ready (rs:=[16]) (by kernel_rfl) (by simp) ?_
 refine AllReadyH.cons (i:=16) rfl (fun K2 hK2 => ?_) AllReadyH.nil
 rw [if_pos (by rfl)]
 refine wp_store_row 84 _ _ rfl (x0+1+1) #[.int .u64 b,.int .u64 e] rfl rfl 84 _ ((setRow_other _ _ _ _ (by omega)).trans (R2.out)) (by kernel_rfl) rfl (by simp [Value.oneCell']) ?_
 refine hK2.out _ _ (show But (fun q => q = x0+1 ∨ q = x0+1+1) wv _ from (((But.refl (fun q => q = x0+1 ∨ q = x0+1+1) wv).drew.setRow (x0+1) #[.int .u64 b,.int .u64 b] (fun _ => by omega)).setRow (x0+1+1) #[.int .u64 b,.int .u64 e] (fun _ => by omega))) (fun hHeld2 => ?_)
 clear hK2 K2
 try simp only [pu]
 refine tk (i:=17) (v:=?v32) rfl ?y32 ?r32
 case y32 => (intro w hSw;(try dsimp only at hSw);go_simp;(try with_reducible rfl))
 try simp only [pu]
 refine wpAnyH_done (by kernel_rfl) ?_ _
 clear hHeld hHeld2
 go_wp2_with fail
 refine bodyPost_ret (v:=.tuple #[.agg #[.int .u64 b,.int .u64 b],.agg #[.int .u64 b,.int .u64 e],.bool false]) (results_row_row_tmp rfl _ _ (x0+1) (x0+1+1) 84 84 #[.int .u64 b,.int .u64 b] #[.int .u64 b,.int .u64 e] (0,0) (0,0) _ rfl ((setRow_other _ _ _ _ (by omega)).trans (setRow_heap wv.drew _ _ _ _ _ R1.out)) rfl (setRow_heap _ _ _ _ _ _ ((setRow_other wv.drew _ _ _ (by omega)).trans R2.out)) Tryz.underlying84 rfl (by kernel_rfl) (by kernel_rfl) _ rfl) rfl ⟨rfl,?_⟩
 rw [X0.out]
 exact below_setRow (below_setRow (show Below x0 w wv.drew from HB.out.drew) _ _ (by omega)) _ _ (by omega)
/- forge.claim.part: what the claim says of a stretch. Condition: the package-level variables read as listed. -/
theorem yieldsIf_lookup {P:Program} {ops:Array Oper} {S:World → Prop} {op:Oper} {a:Act} (hw:Region.wanted op (yielded ops a.tmps) = true) (t:TypeId) (m x:Operand) (ho:op.op = .lookup t m x true)
 (mv:Value) (hm:a.eval m = mv) (xv:Value) (hx:a.eval x = xv) (r:Value) (hS:∀ w,S w → (Instr.lookup t mv xv true).run P w = .ok r w):YieldsIf P ops S op r a :=
 .inl ⟨hw,fun w h => by
  unfold execOp
  simp only [ho,hm,hx,Sem.run_bind,Sem.run_pure,Result.andThen_ok,hS w h]⟩
def ClaimCells (C b2 mb b0:Nat) (begin:Int) (n cap:Nat) (S:Option Addr) (w:World):Prop :=
 w.cell? ⟨b2,0,none⟩ = some (.pointer (some ⟨C,0,none⟩)) ∧ w.cell? ⟨C,0,none⟩ = some (.pointer (some ⟨b0,0,none⟩)) ∧ w.cell? ⟨C,1,none⟩ = some (.map (some mb)) ∧ w.cell? ⟨C,2,none⟩ = some (.int .u64 begin) ∧ w.cell? ⟨C,3,none⟩ = some (.slice S n cap)
structure ClaimPre (a:Nat → Addr) (B base b0:Nat) (v:Value) (L:List ByteArray) (C b2 bc bs mb:Nat) (begin:Int) (S:Option Addr) (n cap:Nat) (D:List ByteArray) (m:List ((Int × Int) × List UInt8)) (w:World):Prop where
 env:Env B a w
 log:LogAt base b0 v L w
 cl:w.heap[C]? = some (.cells #[.pointer (some ⟨b0,0,none⟩),.map (some mb),.int .u64 begin,.slice S n cap] 71 (0,0))
 p2:w.heap[b2]? = some (.cells #[.pointer (some ⟨C,0,none⟩)] 67 (0,0))
 pc:w.heap[bc]? = some (.cells #[.func (.func 56) #[] #[]] 109 (0,0))
 ps:w.heap[bs]? = some (.cells #[.func (.func 57) #[] #[.pointer (some ⟨b2,0,none⟩),.pointer (some ⟨bc,0,none⟩),.pointer (some ⟨bs,0,none⟩)]] 108 (0,0))
 said:SaidAt w mb m
 data:SIn w S n cap D
 small:∀ s ∈ D,s.size ≤ 100000000000
theorem ClaimPre.below {a:Nat → Addr} {B base b0:Nat} {v:Value} {L:List ByteArray} {C b2 bc bs mb:Nat} {begin:Int} {S:Option Addr} {n cap:Nat} {D:List ByteArray} {m:List ((Int × Int) × List UInt8)} {w w':World} (h:ClaimPre a B base b0 v L C b2 bc bs mb begin S n cap D m w) (hb:Below w.heap.size w w'):ClaimPre a B base b0 v L C b2 bc bs mb begin S n cap D m w' :=
 ⟨h.env.step hb,h.log.below hb,(hb.block C (Array.getElem?_eq_some_iff.1 h.cl).1).trans h.cl,(hb.block b2 (Array.getElem?_eq_some_iff.1 h.p2).1).trans h.p2,(hb.block bc (Array.getElem?_eq_some_iff.1 h.pc).1).trans h.pc,(hb.block bs (Array.getElem?_eq_some_iff.1 h.ps).1).trans h.ps,h.said.below hb h.said.lt,h.data.below hb,h.small⟩
theorem ClaimPre.cells {a:Nat → Addr} {B base b0:Nat} {v:Value} {L:List ByteArray} {C b2 bc bs mb:Nat} {begin:Int} {S:Option Addr} {n cap:Nat} {D:List ByteArray} {m:List ((Int × Int) × List UInt8)} {w:World} (h:ClaimPre a B base b0 v L C b2 bc bs mb begin S n cap D m w):ClaimCells C b2 mb b0 begin n cap S w :=
 ⟨by rw [cell_of_row w b2 0 _ 67 (0,0) h.p2];rfl,by rw [cell_of_row w C 0 _ 71 (0,0) h.cl];rfl,by rw [cell_of_row w C 1 _ 71 (0,0) h.cl];rfl,by rw [cell_of_row w C 2 _ 71 (0,0) h.cl];rfl,by rw [cell_of_row w C 3 _ 71 (0,0) h.cl];rfl⟩
theorem says_said (a:Nat → Addr) (B base b0:Nat) (v:Value) (L:List ByteArray) (C b2 bc bs mb:Nat) (begin:Int) (S:Option Addr) (n cap:Nat) (D:List ByteArray) (m:List ((Int × Int) × List UInt8)) (b e:Int) (h:List UInt8) (w:World) (hP:ClaimPre a B base b0 v L C b2 bc bs mb begin S n cap D m w) (hb:PB (b,e)) (hh:saidL m (b,e) = some h) :
 Calls Tryz.prog 57 #[.agg #[.int .u64 b,.int .u64 e],.pointer (some ⟨b2,0,none⟩),.pointer (some ⟨bc,0,none⟩),.pointer (some ⟨bs,0,none⟩)] w fun ev w' => ev = .returned (hv h) ∧ h.length = 32 ∧ Below w.heap.size w w':=by
 have lh:h.length = 32:=by
  obtain ⟨x,hx,rfl⟩:∃ x ∈ m,x.2 = h:=saidL_mem hh
  exact (hP.said.1 x hx).2
 obtain ⟨vq,evq,Hvq,Zvq,Ivq,Ovq⟩:=row_of h lh
 have LH:=hid lh
 obtain ⟨x0,hx0⟩:∃ x,w.heap.size = x:=⟨_,rfl⟩
 have HP:=hid hP
 obtain ⟨wv,hwv⟩:∃ x,(w.alloc (.cells #[.int .u64 b,.int .u64 e] 84)).alloc (.cells (List.replicate 32 (Value.int .u8 0)).toArray 39) = x:=⟨_,rfl⟩
 have HB:Hid (Below w.heap.size w wv):=hid (by rw [← hwv];exact ((Below.refl _ _).alloc (Nat.le_refl _) _).alloc (by simp) _)
 have HSV:Hid (wv.heap.size = x0+2):=hid (by rw [← hwv,← hx0];simp)
 have R0:Hid (wv.heap[x0]? = some (.cells #[.int .u64 b,.int .u64 e] 84 (0,0))):=hid (by
  rw [← hwv,← hx0,((Below.refl _ (w.alloc (.cells #[.int .u64 b,.int .u64 e] 84))).alloc (Nat.le_refl _) _).block w.heap.size (by simp)];exact heap_at _ _ _ rfl)
 have R5:Hid (wv.heap[x0+1]? = some (.cells (List.replicate 32 (Value.int .u8 0)).toArray 39 (0,0))):=hid (by rw [← hwv,← hx0];exact heap_at _ _ _ (by simp))
 have HPV:=hid (HP.out.below HB.out)
 have KC:Hid (∀ w',Gr wv w' → ClaimCells C b2 mb b0 begin n cap S w' ∧ w'.cell? ⟨x0,0,none⟩ = some (.int .u64 b) ∧ w'.cell? ⟨x0,1,none⟩ = some (.int .u64 e)):=hid (fun w' h => by
  have hp:=HPV.out.below h
  have hr:=(Below.block h x0 (by have:=HSV.out;omega)).trans R0.out
  exact ⟨hp.cells,by rw [cell_of_row w' x0 0 _ 84 (0,0) hr];rfl,by rw [cell_of_row w' x0 1 _ 84 (0,0) hr];rfl⟩)
 have KC1:Hid (∀ w',Gr wv w' → w'.cell? ⟨b2,0,none⟩ = some (.pointer (some ⟨C,0,none⟩)) ∧ w'.cell? ⟨C,1,none⟩ = some (.map (some mb)) ∧ w'.cell? ⟨C,2,none⟩ = some (.int .u64 begin) ∧ w'.cell? ⟨C,3,none⟩ = some (.slice S n cap) ∧ w'.cell? ⟨x0,0,none⟩ = some (.int .u64 b) ∧ w'.cell? ⟨x0,1,none⟩ = some (.int .u64 e)):=hid (fun w' h => by
  obtain ⟨⟨c1,c2,c3,c4,c5⟩,c6,c7⟩:=KC.out w' h
  exact ⟨c1,c3,c4,c5,c6,c7⟩)
 have HWV:=hid hwv
 simp only [List.replicate,List.toArray] at HWV
 have X0:=hid hx0
 have hbx:(Tryz.prog.info? 84).map (·.size) = some 2:=by kernel_rfl
 have HLK:Hid (∀ w',Gr wv w' → (Instr.lookup 68 (.map (some mb)) (.agg #[.int .u64 b,.int .u64 e]) true).run Tryz.prog w' = .ok (.tuple #[.agg vq,.bool true]) w'):=hid (fun w' g => by
  have:=said_look (HPV.out.below g).said (b,e) hb
  rw [hh] at this
  simpa [evq,spanV] using this)
 rw [evq]
 clear hP hb hh evq lh hwv
 go_enter Tryz.func57,Tryz.ntmps57
 go_upto_region 1 with fail
 rw [HWV.out]
 (try simp only [hx0])
 go_upto_region 1 with fail
 refine wp_region_held_drew (S:=Gr wv) (by kernel_rfl) (Gr.refl wv).drew (fun hHeld => ?_)
 refine tk (i:=0) (v:=?v1) rfl ?y1 ?r1
 case y1 => (intro w hSw;(try dsimp only at hSw);obtain ⟨z0,z1,z2,z3,z4,z5⟩:=KC1.out w hSw;go_simp;(try with_reducible rfl))
 try simp only [pu]
 refine tk (i:=1) (v:=?v2) rfl ?y2 ?r2
 case y2 => (intro w hSw;(try dsimp only at hSw);go_simp;(try with_reducible rfl))
 try simp only [pu]
 refine tk (i:=2) (v:=?v3) rfl ?y3 ?r3
 case y3 => (intro w hSw;(try dsimp only at hSw);go_simp;(try with_reducible rfl))
 try simp only [pu]
 refine tk (i:=3) (v:=?v4) rfl ?y4 ?r4
 case y4 => (intro w hSw;(try dsimp only at hSw);obtain ⟨z0,z1,z2,z3,z4,z5⟩:=KC1.out w hSw;go_simp;(try with_reducible rfl))
 try simp only [pu]
 refine tk (i:=4) (v:=?v5) rfl ?y5 ?r5
 case y5 => (intro w hSw;(try dsimp only at hSw);obtain ⟨z0,z1,z2,z3,z4,z5⟩:=KC1.out w hSw;go_simp;(try with_reducible rfl))
 try simp only [pu]
 refine tw (i:=5) rfl (yieldsIf_lookup (by rfl) 68 _ _ (by rfl) (.map (some mb)) (by rfl) (.agg #[.int .u64 b,.int .u64 e]) (by rfl) _ (fun w h => HLK.out w h)) ?_
 try simp only [pu]
 refine tk (i:=6) (v:=?v7) rfl ?y7 ?r7
 case y7 => (intro w hSw;(try dsimp only at hSw);go_simp;(try with_reducible rfl))
 try simp only [pu]
 refine tk (i:=7) (v:=?v8) rfl ?y8 ?r8
 case y8 => (intro w hSw;(try dsimp only at hSw);go_simp;(try with_reducible rfl))
 try simp only [pu]
 refine tk (i:=8) (v:=?v9) rfl ?y9 ?r9
 case y9 => (intro w hSw;(try dsimp only at hSw);go_simp;(try with_reducible rfl))
 try simp only [pu]
 refine wpAnyH_ready (rs:=[9]) (by kernel_rfl) (by simp) ?_
 refine AllReadyH.cons (i:=9) rfl (fun K2 hK2 => ?_) AllReadyH.nil
 go_simp
 obtain ⟨wa,hwa⟩:∃ x,(wv.alloc (.cells (List.replicate 32 (Value.int .u8 0)).toArray 39)).drew = x:=⟨_,rfl⟩
 have ba:Below wv.heap.size wv wa:=by rw [← hwa];exact ((Below.refl _ wv).alloc (Nat.le_refl _) _).drew
 have Ra:Hid (wa.heap[wv.heap.size]? = some (.cells (List.replicate 32 (Value.int .u8 0)).toArray 39 (0,0))):=hid (by rw [← hwa];exact heap_at wv _ _ rfl)
 simp only [List.replicate] at hwa
 rw [hwa]
 clear hwa
 refine hK2.out _ _ (show Gr wv _ from (by repeat (first | exact Gr.refl _ | (refine Gr.step ?_ (by assumption)) | (refine Gr.alloc ?_ _) | (refine Gr.drew ?_)))) (fun hHeld2 => ?_)
 clear hK2 K2
 try simp only [pu]
 refine wpAnyH_ready (rs:=[10]) (by kernel_rfl) (by simp) ?_
 refine AllReadyH.cons (i:=10) rfl (fun K2 hK2 => ?_) AllReadyH.nil
 rw [if_pos (by rfl)]
 refine wp_store_row 39 _ _ rfl wv.heap.size vq rfl rfl 39 _ Ra.out Ivq.out (by rw [Zvq.out];simp) Ovq.out ?_
 refine hK2.out _ _ (show Gr wv _ from below_setRow (show Gr wv wa from (by repeat (first | exact Gr.refl _ | (refine Gr.step ?_ (by assumption)) | (refine Gr.alloc ?_ _) | (refine Gr.drew ?_)))) _ _ (Nat.le_refl _)) (fun hHeld2 => ?_)
 clear hK2 K2
 try simp only [pu]
 refine tk (i:=11) (v:=?v10) rfl ?y10 ?r10
 case y10 => (intro w hSw;(try dsimp only at hSw);go_simp;(try with_reducible rfl))
 try simp only [pu]
 refine wpAnyH_done (by kernel_rfl) ?_ _
 have HBa:Hid (Below wv.heap.size wv (wa.setRow wv.heap.size vq)):=hid (below_setRow (show Gr wv wa from (by repeat (first | exact Gr.refl _ | (refine Gr.step ?_ (by assumption)) | (refine Gr.alloc ?_ _) | (refine Gr.drew ?_)))) _ _ (Nat.le_refl _))
 have R6:Hid ((wa.setRow wv.heap.size vq).heap[wv.heap.size]? = some (.cells vq 39 (0,0))):=hid (setRow_heap _ _ _ _ _ _ Ra.out)
 obtain ⟨wl,hwl⟩:∃ x,wa.setRow wv.heap.size vq = x:=⟨_,rfl⟩
 rw [hwl] at HBa R6 ⊢
 clear hwl ba Ra hHeld hHeld2
 have R6l:=R6
 have R5l:Hid (wl.heap[x0+1]? = some (.cells (List.replicate 32 (Value.int .u8 0)).toArray 39 (0,0))):=hid ((HBa.out.block _ (by have:=HSV.out;omega)).trans R5.out)
 have HBL:Hid (Below w.heap.size w wl):=hid (HB.out.trans (HBa.out.mono HB.out.size))
 go_wp2_with (first
  | (refine wpList_load_row rfl 39 _ rfl wv.heap.size rfl 39 vq (0,0) _ R6l.out Tryz.underlying39 rfl Ivq.out ?_)
  | (refine wpList_store_row rfl 39 _ _ rfl (x0+1) vq rfl rfl 39 _ R5l.out Ivq.out (by rw [Zvq.out];simp) Ovq.out ?_))
 refine bodyPost_ret (v:=.agg vq) (results_cell_row rfl _ _ (x0+1) 39 vq (0,0) _ rfl (setRow_heap _ _ _ _ _ _ R5l.out) Tryz.underlying39 rfl Ivq.out) rfl ⟨rfl,LH.out,?_⟩
 rw [X0.out]
 exact below_setRow (show Below x0 w wl from by rw [← X0.out];exact HBL.out) _ _ (by omega)
/- forge.claim.part: what the claim says of any stretch. Condition: the package-level variables read as listed. -/
theorem says_leaf (a:Nat → Addr) (B base b0:Nat) (v:Value) (L:List ByteArray) (C b2 bc bs mb:Nat) (begin:Int) (S:Option Addr) (n cap:Nat) (D:List ByteArray) (m:List ((Int × Int) × List UInt8)) (b e:Int) (j:Nat) (d:ByteArray) (w:World) (hP:ClaimPre a B base b0 v L C b2 bc bs mb begin S n cap D m w) (hb:PB (b,e)) (hh:saidL m (b,e) = none) (h1:b < e) (h9:e ≤ 9223372036854775808) (h2:e - b < 2) (hg0:0 ≤ begin) (hj:b = begin+(j:Int)) (hd:D[j]? = some d) :
 Calls Tryz.prog 57 #[.agg #[.int .u64 b,.int .u64 e],.pointer (some ⟨b2,0,none⟩),.pointer (some ⟨bc,0,none⟩),.pointer (some ⟨bs,0,none⟩)] w fun ev w' => ev = .returned (hv (leafH d)) ∧ Below w.heap.size w w':=by
 obtain ⟨vq,evq,Hvq,Zvq,Ivq,Ovq⟩:=row_of zeroH zeroH_length
 obtain ⟨vl,evl,Hvl,Zvl,Ivl,Ovl⟩:=row_of (leafH d) (leafH_length _)
 obtain ⟨g,o,rfl,hdc,hdg,hds⟩:=hP.data.at hd
 have hjn:j < n:=by have:=(List.getElem?_eq_some_iff.1 hd).1;have:=hP.data.1;omega
 have hn9:n ≤ 140737488355328:=hP.data.2.2.2.2.1
 have hd9:d.size ≤ 100000000000:=hP.small d (List.mem_of_getElem? hd)
 have HLF:Hid (∀ w,Env B a w → Calls Tryz.prog 22 #[.string d] w fun ev w' => ev = .returned (.agg vl) ∧ Below w.heap.size w w'):=hid (fun w q => by
  have:=hleaf_any d w hd9 q.tab
  rw [evl] at this;exact this)
 obtain ⟨x0,hx0⟩:∃ x,w.heap.size = x:=⟨_,rfl⟩
 have HP:=hid hP
 obtain ⟨wv,hwv⟩:∃ x,(w.alloc (.cells #[.int .u64 b,.int .u64 e] 84)).alloc (.cells (List.replicate 32 (Value.int .u8 0)).toArray 39) = x:=⟨_,rfl⟩
 have HB:Hid (Below w.heap.size w wv):=hid (by rw [← hwv];exact ((Below.refl _ _).alloc (Nat.le_refl _) _).alloc (by simp) _)
 have HSV:Hid (wv.heap.size = x0+2):=hid (by rw [← hwv,← hx0];simp)
 have R0:Hid (wv.heap[x0]? = some (.cells #[.int .u64 b,.int .u64 e] 84 (0,0))):=hid (by
  rw [← hwv,← hx0,((Below.refl _ (w.alloc (.cells #[.int .u64 b,.int .u64 e] 84))).alloc (Nat.le_refl _) _).block w.heap.size (by simp)];exact heap_at _ _ _ rfl)
 have R5:Hid (wv.heap[x0+1]? = some (.cells (List.replicate 32 (Value.int .u8 0)).toArray 39 (0,0))):=hid (by rw [← hwv,← hx0];exact heap_at _ _ _ (by simp))
 have HPV:=hid (HP.out.below HB.out)
 have KC:Hid (∀ w',Gr wv w' → ClaimCells C b2 mb b0 begin n cap (some ⟨g,o,none⟩) w' ∧ w'.cell? ⟨x0,0,none⟩ = some (.int .u64 b) ∧ w'.cell? ⟨x0,1,none⟩ = some (.int .u64 e)):=hid (fun w' h => by
  have hp:=HPV.out.below h
  have hr:=(Below.block h x0 (by have:=HSV.out;omega)).trans R0.out
  exact ⟨hp.cells,by rw [cell_of_row w' x0 0 _ 84 (0,0) hr];rfl,by rw [cell_of_row w' x0 1 _ 84 (0,0) hr];rfl⟩)
 have KC1:Hid (∀ w',Gr wv w' → w'.cell? ⟨b2,0,none⟩ = some (.pointer (some ⟨C,0,none⟩)) ∧ w'.cell? ⟨C,1,none⟩ = some (.map (some mb)) ∧ w'.cell? ⟨C,2,none⟩ = some (.int .u64 begin) ∧ w'.cell? ⟨C,3,none⟩ = some (.slice (some ⟨g,o,none⟩) n cap) ∧ w'.cell? ⟨x0,0,none⟩ = some (.int .u64 b) ∧ w'.cell? ⟨x0,1,none⟩ = some (.int .u64 e)):=hid (fun w' h => by
  obtain ⟨⟨c1,c2,c3,c4,c5⟩,c6,c7⟩:=KC.out w' h
  exact ⟨c1,c3,c4,c5,c6,c7⟩)
 have HWV:=hid hwv
 simp only [List.replicate,List.toArray] at HWV
 have X0:=hid hx0
 have hbx:(Tryz.prog.info? 84).map (·.size) = some 2:=by kernel_rfl
 have HLK:Hid (∀ w',Gr wv w' → (Instr.lookup 68 (.map (some mb)) (.agg #[.int .u64 b,.int .u64 e]) true).run Tryz.prog w' = .ok (.tuple #[.agg vq,.bool false]) w'):=hid (fun w' g => by
  have:=said_look (HPV.out.below g).said (b,e) hb
  rw [hh] at this
  simpa [evq,spanV] using this)
 have HCUT:=hid (fun w => cut_none b e w hb.1 h1 h9 h2)
 have KD:Hid (w.cell? ⟨g,o+j,none⟩ = some (.string d) ∧ g < w.heap.size):=hid ⟨hdc,hdg⟩
 rw [evl]
 have hwj:IntKind.u64.wrap (b - begin) = (j:Int):=by rw [hj];have:=IntWalk.u64_in (j:Int) (by omega);rw [show begin+(j:Int) - begin = j by omega];exact this
 have hsj:b - begin = (j:Int):=by omega
 have HJ:=hid (And.intro hj (And.intro hjn (And.intro hn9 (And.intro hwj hsj))))
 have hb1:=hb.1
 have hb2:=hb.2.1
 have HBN:=hid (And.intro hb1 (And.intro hb2 hg0))
 clear hP hb hh evq evl hwv h1 h9 h2 hdc hdg hd hds hwj hj hjn hn9 hb1 hb2 hg0 hd9 hsj
 go_enter Tryz.func57,Tryz.ntmps57
 go_upto_region 1 with fail
 rw [HWV.out]
 (try simp only [hx0])
 go_upto_region 1 with fail
 refine wp_region_held_drew (S:=Gr wv) (by kernel_rfl) (Gr.refl wv).drew (fun hHeld => ?_)
 refine tk (i:=0) (v:=?v24) rfl ?y24 ?r24
 case y24 => (intro w hSw;(try dsimp only at hSw);obtain ⟨z0,z1,z2,z3,z4,z5⟩:=KC1.out w hSw;go_simp;(try with_reducible rfl))
 try simp only [pu]
 refine tk (i:=1) (v:=?v25) rfl ?y25 ?r25
 case y25 => (intro w hSw;(try dsimp only at hSw);go_simp;(try with_reducible rfl))
 try simp only [pu]
 refine tk (i:=2) (v:=?v26) rfl ?y26 ?r26
 case y26 => (intro w hSw;(try dsimp only at hSw);go_simp;(try with_reducible rfl))
 try simp only [pu]
 refine tk (i:=3) (v:=?v27) rfl ?y27 ?r27
 case y27 => (intro w hSw;(try dsimp only at hSw);obtain ⟨z0,z1,z2,z3,z4,z5⟩:=KC1.out w hSw;go_simp;(try with_reducible rfl))
 try simp only [pu]
 refine tk (i:=4) (v:=?v28) rfl ?y28 ?r28
 case y28 => (intro w hSw;(try dsimp only at hSw);obtain ⟨z0,z1,z2,z3,z4,z5⟩:=KC1.out w hSw;go_simp;(try with_reducible rfl))
 try simp only [pu]
 refine tw (i:=5) rfl (yieldsIf_lookup (by rfl) 68 _ _ (by rfl) (.map (some mb)) (by rfl) (.agg #[.int .u64 b,.int .u64 e]) (by rfl) _ (fun w h => HLK.out w h)) ?_
 try simp only [pu]
 refine tk (i:=6) (v:=?v30) rfl ?y30 ?r30
 case y30 => (intro w hSw;(try dsimp only at hSw);go_simp;(try with_reducible rfl))
 try simp only [pu]
 refine tk (i:=7) (v:=?v31) rfl ?y31 ?r31
 case y31 => (intro w hSw;(try dsimp only at hSw);go_simp;(try with_reducible rfl))
 try simp only [pu]
 refine tk (i:=8) (v:=?v32) rfl ?y32 ?r32
 case y32 => (intro w hSw;(try dsimp only at hSw);go_simp;(try with_reducible rfl))
 try simp only [pu]
 refine wpAnyH_ready (rs:=[9]) (by kernel_rfl) (by simp) ?_
 refine AllReadyH.cons (i:=9) rfl (fun K2 hK2 => ?_) AllReadyH.nil
 go_simp
 obtain ⟨wa,hwa⟩:∃ x,(wv.alloc (.cells (List.replicate 32 (Value.int .u8 0)).toArray 39)).drew = x:=⟨_,rfl⟩
 have ba:Below wv.heap.size wv wa:=by rw [← hwa];exact ((Below.refl _ wv).alloc (Nat.le_refl _) _).drew
 have Ra:Hid (wa.heap[wv.heap.size]? = some (.cells (List.replicate 32 (Value.int .u8 0)).toArray 39 (0,0))):=hid (by rw [← hwa];exact heap_at wv _ _ rfl)
 simp only [List.replicate] at hwa
 rw [hwa]
 clear hwa
 refine hK2.out _ _ (show Gr wv _ from (by repeat (first | exact Gr.refl _ | (refine Gr.step ?_ (by assumption)) | (refine Gr.alloc ?_ _) | (refine Gr.drew ?_)))) (fun hHeld2 => ?_)
 clear hK2 K2
 try simp only [pu]
 refine wpAnyH_ready (rs:=[10]) (by kernel_rfl) (by simp) ?_
 refine AllReadyH.cons (i:=10) rfl (fun K2 hK2 => ?_) AllReadyH.nil
 rw [if_pos (by rfl)]
 refine wp_store_row 39 _ _ rfl wv.heap.size vq rfl rfl 39 _ Ra.out Ivq.out (by rw [Zvq.out];simp) Ovq.out ?_
 refine hK2.out _ _ (show Gr wv _ from below_setRow (show Gr wv wa from (by repeat (first | exact Gr.refl _ | (refine Gr.step ?_ (by assumption)) | (refine Gr.alloc ?_ _) | (refine Gr.drew ?_)))) _ _ (Nat.le_refl _)) (fun hHeld2 => ?_)
 clear hK2 K2
 try simp only [pu]
 refine tk (i:=11) (v:=?v33) rfl ?y33 ?r33
 case y33 => (intro w hSw;(try dsimp only at hSw);go_simp;(try with_reducible rfl))
 try simp only [pu]
 refine wpAnyH_done (by kernel_rfl) ?_ _
 have HBa:Hid (Below wv.heap.size wv (wa.setRow wv.heap.size vq)):=hid (below_setRow (show Gr wv wa from (by repeat (first | exact Gr.refl _ | (refine Gr.step ?_ (by assumption)) | (refine Gr.alloc ?_ _) | (refine Gr.drew ?_)))) _ _ (Nat.le_refl _))
 have R6:Hid ((wa.setRow wv.heap.size vq).heap[wv.heap.size]? = some (.cells vq 39 (0,0))):=hid (setRow_heap _ _ _ _ _ _ Ra.out)
 obtain ⟨wl,hwl⟩:∃ x,wa.setRow wv.heap.size vq = x:=⟨_,rfl⟩
 rw [hwl] at HBa R6 ⊢
 clear hwl ba Ra hHeld hHeld2
 have HPL:=hid (HPV.out.below HBa.out)
 have cbc:wl.cell? ⟨bc,0,none⟩ = some (.func (.func 56) #[] #[]):=by rw [cell_of_row wl bc 0 _ 109 (0,0) HPL.out.pc];rfl
 obtain ⟨_,_,_,_,s0,s1⟩:=KC1.out wl HBa.out
 go_wp2_with fail
 refine (HCUT.out wl).mono ?_
 rintro ev w1 ⟨rfl,b1⟩
 have B1:=hid b1
 clear b1 cbc s0 s1
 go_upto_region 5 with (first
  | (refine wpList_store_row_any rfl 84 _ _ rfl w1.heap.size #[.int .u64 b,.int .u64 b] rfl rfl 84 _ ((((Below.refl _ (w1.alloc _)).alloc (Nat.le_refl _) _).block _ (by simp)).trans (heap_at _ _ _ rfl)) (by kernel_rfl) rfl (by simp [Value.oneCell']) ?_;intro w2 hbA hgA hsA;have BA:=hid hbA;have GA:=hid hgA;have SAz:Hid (w2.heap.size = w1.heap.size+1+1):=hid (hsA.trans (by simp));clear hbA hgA hsA)
  | (refine wpList_store_row_any rfl 84 _ _ rfl (w1.heap.size+1) #[.int .u64 b,.int .u64 e] rfl rfl 84 _ ((BA.out.same _ (by simp) (by omega)).trans (heap_at _ _ _ (by simp))) (by kernel_rfl) rfl (by simp [Value.oneCell']) ?_;intro w3 hbB hgB hsB;have BC:=hid hbB;have RRt:=hid hgB;have SBz:Hid (w3.heap.size = w1.heap.size+1+1):=hid (hsB.trans SAz.out);clear hbB hgB hsB))
 have B13:Hid (Below w1.heap.size w1 w3):=hid ((((Below.refl _ _).alloc (Nat.le_refl _) _).alloc (by simp) _).trans (((BA.out.mono (T:=fun k => k = w1.heap.size ∨ k = w1.heap.size+1) (fun _ _ q => .inl q)).step BC.out (fun _ _ q => .inr q)).to_below (by simp;omega) (fun k hk q => by omega)))
 have RLf:Hid (w3.heap[w1.heap.size]? = some (.cells #[.int .u64 b,.int .u64 b] 84 (0,0))):=hid ((BC.out.same _ (by have:=SAz.out;omega) (by omega)).trans GA.out)
 have HBl3:Hid (Below wl.heap.size wl w3):=hid (B1.out.trans (B13.out.mono B1.out.size))
 have HBv3:Hid (Below wv.heap.size wv w3):=hid (HBa.out.trans (HBl3.out.mono HBa.out.size))
 have HBL:Hid (Below w.heap.size w w3):=hid (HB.out.trans (HBv3.out.mono HB.out.size))
 have HP3:=hid (HPL.out.below HBl3.out)
 have R5l:Hid (w3.heap[x0+1]? = some (.cells (List.replicate 32 (Value.int .u8 0)).toArray 39 (0,0))):=hid ((HBv3.out.block _ (by have:=HSV.out;omega)).trans R5.out)
 have HX3:Hid (x0+1 < w3.heap.size):=hid (by have:=HBv3.out.size;have:=HSV.out;omega)
 have KC3:Hid (∀ w',But (fun q => q = x0+1) w3 w' → w'.cell? ⟨b2,0,none⟩ = some (.pointer (some ⟨C,0,none⟩)) ∧ w'.cell? ⟨C,2,none⟩ = some (.int .u64 begin) ∧ w'.cell? ⟨C,3,none⟩ = some (.slice (some ⟨g,o,none⟩) n cap) ∧ w'.cell? ⟨x0,0,none⟩ = some (.int .u64 b) ∧ w'.cell? ⟨x0,1,none⟩ = some (.int .u64 e) ∧ w'.cell? ⟨g,o+j,none⟩ = some (.string d)):=hid (fun w' q => by
  obtain ⟨c1,c2,c3,c4,c5,c6⟩:=KC1.out w3 HBv3.out
  have n1:b2 < x0:=by rw [← X0.out];exact (Array.getElem?_eq_some_iff.1 HP.out.p2).1
  have n2:C < x0:=by rw [← X0.out];exact (Array.getElem?_eq_some_iff.1 HP.out.cl).1
  exact ⟨q.cell c1 (by show ¬ (b2 = x0+1);omega),q.cell c3 (by show ¬ (C = x0+1);omega),q.cell c4 (by show ¬ (C = x0+1);omega),q.cell c5 (by show ¬ (x0 = x0+1);omega),q.cell c6 (by show ¬ (x0 = x0+1);omega),q.cell (cell_below HBL.out KD.out.1 KD.out.2) (by show ¬ (g = x0+1);have:=KD.out.2;have:=X0.out;omega)⟩)
 have j0:(0:Int) ≤ j:=by omega
 have j1:(j:Int) < n:=by have:=HJ.out.2.1;omega
 have hwj:=HJ.out.2.2.2.1
 have hsj:=HJ.out.2.2.2.2
 have hbb:begin ≤ b:=by have:=HJ.out.1;omega
 have hwj2:IntKind.u64.wrap (j:Int) = (j:Int):=IntWalk.u64_in _ (by have:=HJ.out.2.1;have:=HJ.out.2.2.1;omega)
 go_wp2_with fail
 refine wp_region_held_drew (S:=But (fun q => q = x0+1) w3) (by kernel_rfl) (But.refl (fun q => q = x0+1) w3).drew (fun hHeld => ?_)
 refine tk (i:=0) (v:=?v11) rfl ?y11 ?r11
 case y11 => (intro w hSw;(try dsimp only at hSw);obtain ⟨z1,z2,z3,z4,z5,z6⟩:=KC3.out w hSw;go_simp;(try with_reducible rfl))
 try simp only [pu]
 refine tk (i:=1) (v:=?v12) rfl ?y12 ?r12
 case y12 => (intro w hSw;(try dsimp only at hSw);go_simp;(try with_reducible rfl))
 try simp only [pu]
 refine tk (i:=2) (v:=?v13) rfl ?y13 ?r13
 case y13 => (intro w hSw;(try dsimp only at hSw);go_simp;(try with_reducible rfl))
 try simp only [pu]
 refine tk (i:=3) (v:=?v14) rfl ?y14 ?r14
 case y14 => (intro w hSw;(try dsimp only at hSw);obtain ⟨z1,z2,z3,z4,z5,z6⟩:=KC3.out w hSw;go_simp;(try with_reducible rfl))
 try simp only [pu]
 refine tk (i:=4) (v:=?v15) rfl ?y15 ?r15
 case y15 => (intro w hSw;(try dsimp only at hSw);go_simp;(try with_reducible rfl))
 try simp only [pu]
 refine tk (i:=5) (v:=?v16) rfl ?y16 ?r16
 case y16 => (intro w hSw;(try dsimp only at hSw);obtain ⟨z1,z2,z3,z4,z5,z6⟩:=KC3.out w hSw;go_simp;(try with_reducible rfl))
 try simp only [pu]
 refine tk (i:=6) (v:=?v17) rfl ?y17 ?r17
 case y17 => (intro w hSw;(try dsimp only at hSw);obtain ⟨z1,z2,z3,z4,z5,z6⟩:=KC3.out w hSw;go_simp;(try with_reducible rfl))
 try simp only [pu]
 refine tk (i:=7) (v:=?v18) rfl ?y18 ?r18
 case y18 => (intro w hSw;(try dsimp only at hSw);go_simp;(try with_reducible rfl))
 try simp only [pu]
 refine tk (i:=8) (v:=?v19) rfl ?y19 ?r19
 case y19 => (intro w hSw;(try dsimp only at hSw);go_simp;(try with_reducible rfl))
 try simp only [pu]
 refine tk (i:=9) (v:=?v20) rfl ?y20 ?r20
 case y20 => (intro w hSw;(try dsimp only at hSw);obtain ⟨z1,z2,z3,z4,z5,z6⟩:=KC3.out w hSw;go_simp;(try with_reducible rfl))
 try simp only [pu]
 refine tk (i:=10) (v:=?v21) rfl ?y21 ?r21
 case y21 => (intro w hSw;(try dsimp only at hSw);go_simp;(try with_reducible rfl))
 try simp only [pu]
 refine tk (i:=11) (v:=?v22) rfl ?y22 ?r22
 case y22 => (intro w hSw;(try dsimp only at hSw);go_simp;(try with_reducible rfl))
 try simp only [pu]
 refine tk (i:=12) (v:=?v23) rfl ?y23 ?r23
 case y23 => (intro w hSw;(try dsimp only at hSw);obtain ⟨z1,z2,z3,z4,z5,z6⟩:=KC3.out w hSw;go_simp;(try with_reducible rfl))
 try simp only [pu]
 refine wpAnyH_ready (rs:=[13]) (by kernel_rfl) (by simp) ?_
 refine AllReadyH.cons (i:=13) rfl (fun K2 hK2 => ?_) AllReadyH.nil
 go_simp
 go_at_call 22
 refine (HLF.out w3.drew (HP3.out.below (show Gr w3 w3.drew from (by repeat (first | exact Gr.refl _ | (refine Gr.step ?_ (by assumption)) | (refine Gr.alloc ?_ _) | (refine Gr.drew ?_))))).env).mono ?_
 rintro ev w101 ⟨rfl,b101⟩
 try go_wp2_with fail
 refine hK2.out _ _ (show But (fun q => q = x0+1) w3 _ from ((But.refl (fun q => q = x0+1) w3).drew.below b101)) (fun hHeld2 => ?_)
 clear hK2 K2
 try simp only [Act.put,List.getElem_toArray,List.getElem_cons_zero,List.getElem_cons_succ,List.setIfInBounds_toArray,List.set_cons_zero,List.set_cons_succ]
 refine wpAnyH_ready (rs:=[14]) (by kernel_rfl) (by simp) ?_
 refine AllReadyH.cons (i:=14) rfl (fun K2 hK2 => ?_) AllReadyH.nil
 rw [if_pos (by rfl)]
 refine wp_store_row 39 _ _ rfl (x0+1) vl rfl rfl 39 _ ((Below.block (show Gr w3 w101 from (Gr.step (Gr.drew (Gr.refl w3)) b101)) _ HX3.out).trans R5l.out) Ivl.out (by rw [Zvl.out];simp) Ovl.out ?_
 refine hK2.out _ _ (show But (fun q => q = x0+1) w3 _ from (((But.refl (fun q => q = x0+1) w3).drew.below b101).setRow (x0+1) vl (fun _ => rfl))) (fun hHeld2 => ?_)
 clear hK2 K2
 try simp only [Act.put,List.getElem_toArray,List.getElem_cons_zero,List.getElem_cons_succ]
 refine wpAnyH_done (by kernel_rfl) ?_ _
 go_wp2
 refine bodyPost_ret (v:=.agg vl) (results_cell_row rfl _ _ (x0+1) 39 vl (0,0) _ rfl (setRow_heap _ _ _ _ _ _ ((Below.block (show Gr w3 w101 from (Gr.step (Gr.drew (Gr.refl w3)) b101)) _ HX3.out).trans R5l.out)) Tryz.underlying39 rfl Ivl.out) rfl ⟨rfl,?_⟩
 have hz:Below w.heap.size w w101:=HBL.out.trans ((show Below w3.heap.size w3 w101 from (Gr.step (Gr.drew (Gr.refl w3)) b101)).mono HBL.out.size)
 exact below_setRow hz _ _ (by have:=X0.out;omega)
theorem says_node (a:Nat → Addr) (B base b0:Nat) (v:Value) (L:List ByteArray) (C b2 bc bs mb:Nat) (begin:Int) (S:Option Addr) (n cap:Nat) (D:List ByteArray) (m:List ((Int × Int) × List UInt8)) (b e k:Int) (x y:List UInt8) (w:World) (hP:ClaimPre a B base b0 v L C b2 bc bs mb begin S n cap D m w) (hb:PB (b,e)) (hh:saidL m (b,e) = none) (h1:b < e) (h9:e ≤ 9223372036854775808) (h2:2 ≤ e - b) (hk:blwI (e - b) = k) (lx:x.length = 32) (ly:y.length = 32)
 (ihb:(∀ w,ClaimPre a B base b0 v L C b2 bc bs mb begin S n cap D m w → Calls Tryz.prog 57 #[.agg #[.int .u64 b,.int .u64 (b+k)],.pointer (some ⟨b2,0,none⟩),.pointer (some ⟨bc,0,none⟩),.pointer (some ⟨bs,0,none⟩)] w fun ev w' => ev = .returned (hv x) ∧ Below w.heap.size w w')) (ihe:(∀ w,ClaimPre a B base b0 v L C b2 bc bs mb begin S n cap D m w → Calls Tryz.prog 57 #[.agg #[.int .u64 (b+k),.int .u64 e],.pointer (some ⟨b2,0,none⟩),.pointer (some ⟨bc,0,none⟩),.pointer (some ⟨bs,0,none⟩)] w fun ev w' => ev = .returned (hv y) ∧ Below w.heap.size w w')) :
 Calls Tryz.prog 57 #[.agg #[.int .u64 b,.int .u64 e],.pointer (some ⟨b2,0,none⟩),.pointer (some ⟨bc,0,none⟩),.pointer (some ⟨bs,0,none⟩)] w fun ev w' => ev = .returned (hv (nodeH x y)) ∧ Below w.heap.size w w':=by
 obtain ⟨vq,evq,Hvq,Zvq,Ivq,Ovq⟩:=row_of zeroH zeroH_length
 obtain ⟨vn,evn,Hvn,Zvn,Ivn,Ovn⟩:=row_of (nodeH x y) (nodeH_length _ _)
 obtain ⟨vx,evx,Hvx,Zvx,Ivx,Ovx⟩:=row_of x lx
 obtain ⟨vy,evy,Hvy,Zvy,Ivy,Ovy⟩:=row_of y ly
 rw [evx] at ihb
 rw [evy] at ihe
 have IHB:=hid ihb
 have IHE:=hid ihe
 have HNODE:Hid (∀ w,Env B a w → Calls Tryz.prog 58 #[.agg vx,.agg vy] w fun ev w' => ev = .returned (.agg vn) ∧ Below w.heap.size w w'):=hid (fun w h => by
  have:=hnode_any x y w lx ly h.tab
  rw [evn,evx,evy] at this;exact this)
 obtain ⟨x0,hx0⟩:∃ x,w.heap.size = x:=⟨_,rfl⟩
 have HP:=hid hP
 obtain ⟨wv,hwv⟩:∃ x,(w.alloc (.cells #[.int .u64 b,.int .u64 e] 84)).alloc (.cells (List.replicate 32 (Value.int .u8 0)).toArray 39) = x:=⟨_,rfl⟩
 have HB:Hid (Below w.heap.size w wv):=hid (by rw [← hwv];exact ((Below.refl _ _).alloc (Nat.le_refl _) _).alloc (by simp) _)
 have HSV:Hid (wv.heap.size = x0+2):=hid (by rw [← hwv,← hx0];simp)
 have R0:Hid (wv.heap[x0]? = some (.cells #[.int .u64 b,.int .u64 e] 84 (0,0))):=hid (by
  rw [← hwv,← hx0,((Below.refl _ (w.alloc (.cells #[.int .u64 b,.int .u64 e] 84))).alloc (Nat.le_refl _) _).block w.heap.size (by simp)];exact heap_at _ _ _ rfl)
 have R5:Hid (wv.heap[x0+1]? = some (.cells (List.replicate 32 (Value.int .u8 0)).toArray 39 (0,0))):=hid (by rw [← hwv,← hx0];exact heap_at _ _ _ (by simp))
 have HPV:=hid (HP.out.below HB.out)
 have KC:Hid (∀ w',Gr wv w' → ClaimCells C b2 mb b0 begin n cap S w' ∧ w'.cell? ⟨x0,0,none⟩ = some (.int .u64 b) ∧ w'.cell? ⟨x0,1,none⟩ = some (.int .u64 e)):=hid (fun w' h => by
  have hp:=HPV.out.below h
  have hr:=(Below.block h x0 (by have:=HSV.out;omega)).trans R0.out
  exact ⟨hp.cells,by rw [cell_of_row w' x0 0 _ 84 (0,0) hr];rfl,by rw [cell_of_row w' x0 1 _ 84 (0,0) hr];rfl⟩)
 have KC1:Hid (∀ w',Gr wv w' → w'.cell? ⟨b2,0,none⟩ = some (.pointer (some ⟨C,0,none⟩)) ∧ w'.cell? ⟨C,1,none⟩ = some (.map (some mb)) ∧ w'.cell? ⟨C,2,none⟩ = some (.int .u64 begin) ∧ w'.cell? ⟨C,3,none⟩ = some (.slice S n cap) ∧ w'.cell? ⟨x0,0,none⟩ = some (.int .u64 b) ∧ w'.cell? ⟨x0,1,none⟩ = some (.int .u64 e)):=hid (fun w' h => by
  obtain ⟨⟨c1,c2,c3,c4,c5⟩,c6,c7⟩:=KC.out w' h
  exact ⟨c1,c3,c4,c5,c6,c7⟩)
 have HWV:=hid hwv
 simp only [List.replicate,List.toArray] at HWV
 have X0:=hid hx0
 have hbx:(Tryz.prog.info? 84).map (·.size) = some 2:=by kernel_rfl
 have HLK:Hid (∀ w',Gr wv w' → (Instr.lookup 68 (.map (some mb)) (.agg #[.int .u64 b,.int .u64 e]) true).run Tryz.prog w' = .ok (.tuple #[.agg vq,.bool false]) w'):=hid (fun w' g => by
  have:=said_look (HPV.out.below g).said (b,e) hb
  rw [hh] at this
  simpa [evq,spanV] using this)
 have HCUT:=hid (fun w => cut_more b e k w hb.1 h1 h9 h2 hk)
 rw [evn]
 clear hP hb hh evq evn evx evy hwv h1 h9 h2 hk ihb ihe lx ly
 go_enter Tryz.func57,Tryz.ntmps57
 go_upto_region 1 with fail
 rw [HWV.out]
 (try simp only [hx0])
 go_upto_region 1 with fail
 refine wp_region_held_drew (S:=Gr wv) (by kernel_rfl) (Gr.refl wv).drew (fun hHeld => ?_)
 refine tk (i:=0) (v:=?v38) rfl ?y38 ?r38
 case y38 => (intro w hSw;(try dsimp only at hSw);obtain ⟨z0,z1,z2,z3,z4,z5⟩:=KC1.out w hSw;go_simp;(try with_reducible rfl))
 try simp only [pu]
 refine tk (i:=1) (v:=?v39) rfl ?y39 ?r39
 case y39 => (intro w hSw;(try dsimp only at hSw);go_simp;(try with_reducible rfl))
 try simp only [pu]
 refine tk (i:=2) (v:=?v40) rfl ?y40 ?r40
 case y40 => (intro w hSw;(try dsimp only at hSw);go_simp;(try with_reducible rfl))
 try simp only [pu]
 refine tk (i:=3) (v:=?v41) rfl ?y41 ?r41
 case y41 => (intro w hSw;(try dsimp only at hSw);obtain ⟨z0,z1,z2,z3,z4,z5⟩:=KC1.out w hSw;go_simp;(try with_reducible rfl))
 try simp only [pu]
 refine tk (i:=4) (v:=?v42) rfl ?y42 ?r42
 case y42 => (intro w hSw;(try dsimp only at hSw);obtain ⟨z0,z1,z2,z3,z4,z5⟩:=KC1.out w hSw;go_simp;(try with_reducible rfl))
 try simp only [pu]
 refine tw (i:=5) rfl (yieldsIf_lookup (by rfl) 68 _ _ (by rfl) (.map (some mb)) (by rfl) (.agg #[.int .u64 b,.int .u64 e]) (by rfl) _ (fun w h => HLK.out w h)) ?_
 try simp only [pu]
 refine tk (i:=6) (v:=?v44) rfl ?y44 ?r44
 case y44 => (intro w hSw;(try dsimp only at hSw);go_simp;(try with_reducible rfl))
 try simp only [pu]
 refine tk (i:=7) (v:=?v45) rfl ?y45 ?r45
 case y45 => (intro w hSw;(try dsimp only at hSw);go_simp;(try with_reducible rfl))
 try simp only [pu]
 refine tk (i:=8) (v:=?v46) rfl ?y46 ?r46
 case y46 => (intro w hSw;(try dsimp only at hSw);go_simp;(try with_reducible rfl))
 try simp only [pu]
 refine wpAnyH_ready (rs:=[9]) (by kernel_rfl) (by simp) ?_
 refine AllReadyH.cons (i:=9) rfl (fun K2 hK2 => ?_) AllReadyH.nil
 go_simp
 obtain ⟨wa,hwa⟩:∃ x,(wv.alloc (.cells (List.replicate 32 (Value.int .u8 0)).toArray 39)).drew = x:=⟨_,rfl⟩
 have ba:Below wv.heap.size wv wa:=by rw [← hwa];exact ((Below.refl _ wv).alloc (Nat.le_refl _) _).drew
 have Ra:Hid (wa.heap[wv.heap.size]? = some (.cells (List.replicate 32 (Value.int .u8 0)).toArray 39 (0,0))):=hid (by rw [← hwa];exact heap_at wv _ _ rfl)
 simp only [List.replicate] at hwa
 rw [hwa]
 clear hwa
 refine hK2.out _ _ (show Gr wv _ from (by repeat (first | exact Gr.refl _ | (refine Gr.step ?_ (by assumption)) | (refine Gr.alloc ?_ _) | (refine Gr.drew ?_)))) (fun hHeld2 => ?_)
 clear hK2 K2
 try simp only [pu]
 refine wpAnyH_ready (rs:=[10]) (by kernel_rfl) (by simp) ?_
 refine AllReadyH.cons (i:=10) rfl (fun K2 hK2 => ?_) AllReadyH.nil
 rw [if_pos (by rfl)]
 refine wp_store_row 39 _ _ rfl wv.heap.size vq rfl rfl 39 _ Ra.out Ivq.out (by rw [Zvq.out];simp) Ovq.out ?_
 refine hK2.out _ _ (show Gr wv _ from below_setRow (show Gr wv wa from (by repeat (first | exact Gr.refl _ | (refine Gr.step ?_ (by assumption)) | (refine Gr.alloc ?_ _) | (refine Gr.drew ?_)))) _ _ (Nat.le_refl _)) (fun hHeld2 => ?_)
 clear hK2 K2
 try simp only [pu]
 refine tk (i:=11) (v:=?v47) rfl ?y47 ?r47
 case y47 => (intro w hSw;(try dsimp only at hSw);go_simp;(try with_reducible rfl))
 try simp only [pu]
 refine wpAnyH_done (by kernel_rfl) ?_ _
 have HBa:Hid (Below wv.heap.size wv (wa.setRow wv.heap.size vq)):=hid (below_setRow (show Gr wv wa from (by repeat (first | exact Gr.refl _ | (refine Gr.step ?_ (by assumption)) | (refine Gr.alloc ?_ _) | (refine Gr.drew ?_)))) _ _ (Nat.le_refl _))
 have R6:Hid ((wa.setRow wv.heap.size vq).heap[wv.heap.size]? = some (.cells vq 39 (0,0))):=hid (setRow_heap _ _ _ _ _ _ Ra.out)
 obtain ⟨wl,hwl⟩:∃ x,wa.setRow wv.heap.size vq = x:=⟨_,rfl⟩
 rw [hwl] at HBa R6 ⊢
 clear hwl ba Ra hHeld hHeld2
 have HPL:=hid (HPV.out.below HBa.out)
 have cbc:wl.cell? ⟨bc,0,none⟩ = some (.func (.func 56) #[] #[]):=by rw [cell_of_row wl bc 0 _ 109 (0,0) HPL.out.pc];rfl
 obtain ⟨_,_,_,_,s0,s1⟩:=KC1.out wl HBa.out
 go_wp2_with fail
 refine (HCUT.out wl).mono ?_
 rintro ev w1 ⟨rfl,b1⟩
 have B1:=hid b1
 clear b1 cbc s0 s1
 go_upto_region 5 with (first
  | (refine wpList_store_row_any rfl 84 _ _ rfl w1.heap.size #[.int .u64 b,.int .u64 (b+k)] rfl rfl 84 _ ((((Below.refl _ (w1.alloc _)).alloc (Nat.le_refl _) _).block _ (by simp)).trans (heap_at _ _ _ rfl)) (by kernel_rfl) rfl (by simp [Value.oneCell']) ?_;intro w2 hbA hgA hsA;have BA:=hid hbA;have GA:=hid hgA;have SAz:Hid (w2.heap.size = w1.heap.size+1+1):=hid (hsA.trans (by simp));clear hbA hgA hsA)
  | (refine wpList_store_row_any rfl 84 _ _ rfl (w1.heap.size+1) #[.int .u64 (b+k),.int .u64 e] rfl rfl 84 _ ((BA.out.same _ (by simp) (by omega)).trans (heap_at _ _ _ (by simp))) (by kernel_rfl) rfl (by simp [Value.oneCell']) ?_;intro w3 hbB hgB hsB;have BC:=hid hbB;have RRt:=hid hgB;have SBz:Hid (w3.heap.size = w1.heap.size+1+1):=hid (hsB.trans SAz.out);clear hbB hgB hsB))
 have B13:Hid (Below w1.heap.size w1 w3):=hid ((((Below.refl _ _).alloc (Nat.le_refl _) _).alloc (by simp) _).trans (((BA.out.mono (T:=fun k => k = w1.heap.size ∨ k = w1.heap.size+1) (fun _ _ q => .inl q)).step BC.out (fun _ _ q => .inr q)).to_below (by simp;omega) (fun k hk q => by omega)))
 have RLf:Hid (w3.heap[w1.heap.size]? = some (.cells #[.int .u64 b,.int .u64 (b+k)] 84 (0,0))):=hid ((BC.out.same _ (by have:=SAz.out;omega) (by omega)).trans GA.out)
 have HBl3:Hid (Below wl.heap.size wl w3):=hid (B1.out.trans (B13.out.mono B1.out.size))
 have HBv3:Hid (Below wv.heap.size wv w3):=hid (HBa.out.trans (HBl3.out.mono HBa.out.size))
 have HBL:Hid (Below w.heap.size w w3):=hid (HB.out.trans (HBv3.out.mono HB.out.size))
 have HP3:=hid (HPL.out.below HBl3.out)
 have R5l:Hid (w3.heap[x0+1]? = some (.cells (List.replicate 32 (Value.int .u8 0)).toArray 39 (0,0))):=hid ((HBv3.out.block _ (by have:=HSV.out;omega)).trans R5.out)
 have HX3:Hid (x0+1 < w3.heap.size):=hid (by have:=HBv3.out.size;have:=HSV.out;omega)
 have HY:Hid (x0+1 < w1.heap.size):=hid (by have:=B1.out.size;have:=HBa.out.size;have:=HSV.out;omega)
 have KN:Hid (∀ w',But (fun q => q = x0+1) w3 w' → w'.cell? ⟨bs,0,none⟩ = some (.func (.func 57) #[] #[.pointer (some ⟨b2,0,none⟩),.pointer (some ⟨bc,0,none⟩),.pointer (some ⟨bs,0,none⟩)]) ∧ w'.cell? ⟨w1.heap.size,0,none⟩ = some (.int .u64 b) ∧ w'.cell? ⟨w1.heap.size,1,none⟩ = some (.int .u64 (b+k)) ∧ w'.cell? ⟨w1.heap.size+1,0,none⟩ = some (.int .u64 (b+k)) ∧ w'.cell? ⟨w1.heap.size+1,1,none⟩ = some (.int .u64 e)):=hid (fun w' q => by
  have n1:bs < x0:=by rw [← X0.out];exact (Array.getElem?_eq_some_iff.1 HP.out.ps).1
  have hy:=HY.out
  exact ⟨q.cell (by rw [cell_of_row w3 bs 0 _ 108 (0,0) HP3.out.ps];rfl) (by show ¬ (bs = x0+1);omega),q.cell (by rw [cell_of_row w3 w1.heap.size 0 _ 84 (0,0) RLf.out];rfl) (by show ¬ (w1.heap.size = x0+1);omega),q.cell (by rw [cell_of_row w3 w1.heap.size 1 _ 84 (0,0) RLf.out];rfl) (by show ¬ (w1.heap.size = x0+1);omega),
   q.cell (by rw [cell_of_row w3 (w1.heap.size+1) 0 _ 84 (0,0) RRt.out];rfl) (by show ¬ (w1.heap.size+1 = x0+1);omega),q.cell (by rw [cell_of_row w3 (w1.heap.size+1) 1 _ 84 (0,0) RRt.out];rfl) (by show ¬ (w1.heap.size+1 = x0+1);omega)⟩)
 go_wp2_with fail
 refine wp_region_held_drew (S:=But (fun q => q = x0+1) w3) (by kernel_rfl) (But.refl (fun q => q = x0+1) w3).drew (fun hHeld => ?_)
 refine tk (i:=0) (v:=?v34) rfl ?y34 ?r34
 case y34 => (intro w hSw;(try dsimp only at hSw);obtain ⟨z1,z2,z3,z4,z5⟩:=KN.out w hSw;go_simp;(try with_reducible rfl))
 try simp only [pu]
 refine tk (i:=1) (v:=?v35) rfl ?y35 ?r35
 case y35 => (intro w hSw;(try dsimp only at hSw);obtain ⟨z1,z2,z3,z4,z5⟩:=KN.out w hSw;go_simp;(try with_reducible rfl))
 try simp only [pu]
 refine tk (i:=3) (v:=?v36) rfl ?y36 ?r36
 case y36 => (intro w hSw;(try dsimp only at hSw);obtain ⟨z1,z2,z3,z4,z5⟩:=KN.out w hSw;go_simp;(try with_reducible rfl))
 try simp only [pu]
 refine tk (i:=4) (v:=?v37) rfl ?y37 ?r37
 case y37 => (intro w hSw;(try dsimp only at hSw);obtain ⟨z1,z2,z3,z4,z5⟩:=KN.out w hSw;go_simp;(try with_reducible rfl))
 try simp only [pu]
 refine wpAnyH_ready (rs:=[2]) (by kernel_rfl) (by simp) ?_
 refine AllReadyH.cons (i:=2) rfl (fun K2 hK2 => ?_) AllReadyH.nil
 go_simp
 go_at_call 57
 refine (IHB.out w3.drew (HP3.out.below (show Gr w3 w3.drew from (by repeat (first | exact Gr.refl _ | (refine Gr.step ?_ (by assumption)) | (refine Gr.alloc ?_ _) | (refine Gr.drew ?_)))))).mono ?_
 rintro ev w102 ⟨rfl,b102⟩
 try go_wp2_with fail
 refine hK2.out _ _ (show But (fun q => q = x0+1) w3 _ from ((But.refl (fun q => q = x0+1) w3).drew.below b102)) (fun hHeld2 => ?_)
 clear hK2 K2
 try simp only [Act.put,List.getElem_toArray,List.getElem_cons_zero,List.getElem_cons_succ,List.setIfInBounds_toArray,List.set_cons_zero,List.set_cons_succ]
 refine wpAnyH_ready (rs:=[5]) (by kernel_rfl) (by simp) ?_
 refine AllReadyH.cons (i:=5) rfl (fun K2 hK2 => ?_) AllReadyH.nil
 go_simp
 go_at_call 57
 refine (IHE.out w102 (HP3.out.below (show Gr w3 w102 from (by repeat (first | exact Gr.refl _ | (refine Gr.step ?_ (by assumption)) | (refine Gr.alloc ?_ _) | (refine Gr.drew ?_)))))).mono ?_
 rintro ev w103 ⟨rfl,b103⟩
 try go_wp2_with fail
 refine hK2.out _ _ (show But (fun q => q = x0+1) w3 _ from (((But.refl (fun q => q = x0+1) w3).drew.below b102).below b103)) (fun hHeld2 => ?_)
 clear hK2 K2
 try simp only [Act.put,List.getElem_toArray,List.getElem_cons_zero,List.getElem_cons_succ,List.setIfInBounds_toArray,List.set_cons_zero,List.set_cons_succ]
 refine wpAnyH_ready (rs:=[6]) (by kernel_rfl) (by simp) ?_
 refine AllReadyH.cons (i:=6) rfl (fun K2 hK2 => ?_) AllReadyH.nil
 go_simp
 go_at_call 58
 refine (HNODE.out w103 (HP3.out.below (show Gr w3 w103 from (by repeat (first | exact Gr.refl _ | (refine Gr.step ?_ (by assumption)) | (refine Gr.alloc ?_ _) | (refine Gr.drew ?_))))).env).mono ?_
 rintro ev w104 ⟨rfl,b104⟩
 try go_wp2_with fail
 refine hK2.out _ _ (show But (fun q => q = x0+1) w3 _ from ((((But.refl (fun q => q = x0+1) w3).drew.below b102).below b103).below b104)) (fun hHeld2 => ?_)
 clear hK2 K2
 try simp only [Act.put,List.getElem_toArray,List.getElem_cons_zero,List.getElem_cons_succ,List.setIfInBounds_toArray,List.set_cons_zero,List.set_cons_succ]
 refine wpAnyH_ready (rs:=[7]) (by kernel_rfl) (by simp) ?_
 refine AllReadyH.cons (i:=7) rfl (fun K2 hK2 => ?_) AllReadyH.nil
 rw [if_pos (by rfl)]
 refine wp_store_row 39 _ _ rfl (x0+1) vn rfl rfl 39 _ ((Below.block (show Gr w3 w104 from (Gr.step (Gr.step (Gr.step (Gr.drew (Gr.refl w3)) b102) b103) b104)) _ HX3.out).trans R5l.out) Ivn.out (by rw [Zvn.out];simp) Ovn.out ?_
 refine hK2.out _ _ (show But (fun q => q = x0+1) w3 _ from (((((But.refl (fun q => q = x0+1) w3).drew.below b102).below b103).below b104).setRow (x0+1) vn (fun _ => rfl))) (fun hHeld2 => ?_)
 clear hK2 K2
 try simp only [Act.put,List.getElem_toArray,List.getElem_cons_zero,List.getElem_cons_succ]
 refine wpAnyH_done (by kernel_rfl) ?_ _
 go_wp2
 refine bodyPost_ret (v:=.agg vn) (results_cell_row rfl _ _ (x0+1) 39 vn (0,0) _ rfl (setRow_heap _ _ _ _ _ _ ((Below.block (show Gr w3 w104 from (Gr.step (Gr.step (Gr.step (Gr.drew (Gr.refl w3)) b102) b103) b104)) _ HX3.out).trans R5l.out)) Tryz.underlying39 rfl Ivn.out) rfl ⟨rfl,?_⟩
 have hz:Below w.heap.size w w104:=HBL.out.trans ((show Below w3.heap.size w3 w104 from (Gr.step (Gr.step (Gr.step (Gr.drew (Gr.refl w3)) b102) b103) b104)).mono HBL.out.size)
 exact below_setRow hz _ _ (by have:=X0.out;omega)
theorem said32 {w:World} {b:Nat} {m:List ((Int × Int) × List UInt8)} (h:SaidAt w b m):∀ p h,saidL m p = some h → h.length = 32:=fun p h' hh => by
 obtain ⟨x,hx,rfl⟩:=saidL_mem hh
 exact (h.1 x hx).2
def claimLeaf (D:List ByteArray) (begin:Int) (i:Int):List UInt8:=leafH (D.getD (i - begin).toNat ByteArray.empty)
theorem says_any (a:Nat → Addr) (B base b0:Nat) (v:Value) (L:List ByteArray) (C b2 bc bs mb:Nat) (begin:Int) (S:Option Addr) (n cap:Nat) (D:List ByteArray) (m:List ((Int × Int) × List UInt8)) (hg0:0 ≤ begin):∀ (f:Nat) (b e:Int) (w:World),ClaimPre a B base b0 v L C b2 bc bs mb begin S n cap D m w → 0 ≤ b → b < e → e ≤ 9223372036854775808 → e - b ≤ pow2 f → (∀ i,fBare (saidL m) f b e i → begin ≤ i ∧ i < begin+n) →
 Calls Tryz.prog 57 #[.agg #[.int .u64 b,.int .u64 e],.pointer (some ⟨b2,0,none⟩),.pointer (some ⟨bc,0,none⟩),.pointer (some ⟨bs,0,none⟩)] w fun ev w' => ev = .returned (hv (fSays (saidL m) (claimLeaf D begin) f b e)) ∧ Below w.heap.size w w':=by
 intro f
 induction f with
 | zero =>
  intro b e w hP h0 h1 h9 hp hc
  rw [pow2_zero] at hp
  have hb:PB (b,e):=⟨h0,by simp only;omega,by simp only;omega,by simp only;omega⟩
  rw [fSays]
  cases hh:saidL m (b,e) with
  | some h => exact (says_said a B base b0 v L C b2 bc bs mb begin S n cap D m b e h w hP hb hh).mono (fun _ _ q => ⟨q.1,q.2.2⟩)
  | none =>
   have hi:=hc b ⟨hh,rfl⟩
   have hn:=hP.data.1
   obtain ⟨d,hd⟩:∃ d,D[(b - begin).toNat]? = some d:=⟨_,List.getElem?_eq_getElem (by omega)⟩
   have:claimLeaf D begin b = leafH d:=by unfold claimLeaf;rw [List.getD_eq_getElem?_getD,hd];rfl
   simp only [this]
   exact says_leaf a B base b0 v L C b2 bc bs mb begin S n cap D m b e (b - begin).toNat d w hP hb hh h1 h9 (by omega) hg0 (by omega) hd
 | succ f ih =>
  intro b e w hP h0 h1 h9 hp hc
  have hb:PB (b,e):=⟨h0,by simp only;omega,by simp only;omega,by simp only;omega⟩
  rw [fSays]
  cases hh:saidL m (b,e) with
  | some h => exact (says_said a B base b0 v L C b2 bc bs mb begin S n cap D m b e h w hP hb hh).mono (fun _ _ q => ⟨q.1,q.2.2⟩)
  | none =>
   by_cases h2:e - b < 2
   ·have hi:=hc b ⟨hh,by rw [if_pos h2]⟩
    have hn:=hP.data.1
    obtain ⟨d,hd⟩:∃ d,D[(b - begin).toNat]? = some d:=⟨_,List.getElem?_eq_getElem (by omega)⟩
    have:claimLeaf D begin b = leafH d:=by unfold claimLeaf;rw [List.getD_eq_getElem?_getD,hd];rfl
    simp only [if_pos h2,this]
    exact says_leaf a B base b0 v L C b2 bc bs mb begin S n cap D m b e (b - begin).toNat d w hP hb hh h1 h9 h2 hg0 (by omega) hd
   ·have hbl:=blwI_bd (n:=e - b) (by omega)
    have hk:=blwI_le_pow (n:=e - b) (f:=f) (by omega) hp
    have hps:=pow2_succ f
    simp only [if_neg h2]
    have l32:=fSays_len (saidL m) (claimLeaf D begin) (said32 hP.said) (fun i => leafH_length _)
    exact says_node a B base b0 v L C b2 bc bs mb begin S n cap D m b e _ _ _ w hP hb hh h1 h9 (by omega) rfl (l32 _ _ _) (l32 _ _ _)
     (fun w' hw => ih b (b+blwI (e - b)) w' hw h0 (by omega) (by omega) (by omega) (fun i hi => hc i ⟨hh,by rw [if_neg h2];exact .inl hi⟩))
     (fun w' hw => ih (b+blwI (e - b)) e w' hw (by omega) (by omega) h9 (by omega) (fun i hi => hc i ⟨hh,by rw [if_neg h2];exact .inr hi⟩))
end Go.Proofs.YtpdkpdpkggepcaaGreatDoor
