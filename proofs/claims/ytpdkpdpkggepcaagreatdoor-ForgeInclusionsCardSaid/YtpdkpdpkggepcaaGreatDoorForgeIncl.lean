import Derived.Test.YtpdkpdpkggepcaaGreatDoorMem
import Derived.Test.YtpdkpdpkggepcaaGreatDoorForgeLives
import Derived.ChangeKeysEq
import Derived.Test.YtpdkpdpkggepcaaGreatDoorForgePart
import Derived.Test.YtpdkpdpkggepcaaGreatDoorVerifyIncl
import Derived.Test.YtpdkpdpkggepcaaGreatDoorSpanPlain
/- cartularylaw20.two, right where two texts are told, or none. Condition: the package-level variables read as listed. -/
namespace Go.Proofs.YtpdkpdpkggepcaaGreatDoor
open Go.ChangeShapes Go.WideShapes Go.ChangeAt Go.RowKit
set_option linter.unusedVariables false
theorem wpList_build_str_g {ops : Array Oper} {rest : List Oper} {o : Oper} {a : Act} {w : World} {Q : Exit → Act → World → Prop} (hw : Region.wanted o (yielded ops a.tmps) = true) (x : Operand) (s : ByteArray) (ho : o.op = .buildSlice 22 1 #[(0, x)]) (hx : a.eval x = .string s)
    (h:wpList Tryz.prog ops Q rest (a.put o.dst (.slice (some ⟨w.heap.size,0,none⟩) 1 1)) (w.alloc (.cells #[.string s] 9))):wpList Tryz.prog ops Q (o :: rest) a w :=
  wpList_step fun _ hK => by
    rw [if_pos hw]
    exact wp_buildSlice_str x s ho hx (hK _ _ h)
theorem str_ne {s t:ByteArray} (h:s ≠ t):¬ s.toList = t.toList:=fun e => by rw [Go.ByteArray.toList_eq,Go.ByteArray.toList_eq] at e;exact h (ByteArray.ext (Array.toList_inj.1 e))
end Go.Proofs.YtpdkpdpkggepcaaGreatDoor

/- What a claim says: lengths, agreement of leaves. Plain. -/
namespace Go.Proofs.YtpdkpdpkggepcaaGreatDoor
open Go.ChangeShapes Go.WideShapes Go.ChangeAt Go.RowKit
set_option linter.unusedVariables false
theorem zip_32 {l:List (Int × Int)} {P:List (List UInt8)} (h:H32 P):∀ p h',saidL (l.zip P) p = some h' → h'.length = 32:=fun p h' q => by
  obtain ⟨x,hx,rfl⟩:=saidL_mem q
  exact h _ (List.of_mem_zip hx).2
end Go.Proofs.YtpdkpdpkggepcaaGreatDoor

/- verify.Root, Inclusion where the path is too long or too short, or the leaf is none. Condition: the package-level variables read as listed. -/
namespace Go.Proofs.YtpdkpdpkggepcaaGreatDoor
open Go.ChangeShapes Go.WideShapes Go.ChangeAt Go.RowKit
set_option linter.unusedVariables false
section
variable {α:Type} (node:α → α → α)
/-- from the node n of a level whose last is l, with h in hand, the hashes ps say no root: there are too many or too few -/
def SaysN (n l:Nat) (h:α) (ps:List α):Prop:=∃ f,l+1 ≤ 2 ^ f ∧ bot node (f+1) n (l+1) h ps = none
theorem SaysN.nil {n l:Nat} {h:α} (hs:SaysN node n l h []):l ≠ 0:=by
  obtain ⟨f,_,hb⟩:=hs
  intro e
  subst e
  rw [bot_one node (by omega)] at hb
  cases hb
theorem SaysN.fuel {n l:Nat} {h:α} {ps:List α} (hs:SaysN node n l h ps) (hl:0 < l):∃ f,l+1 ≤ 2 ^ (f+1) ∧ bot node (f+1+1) n (l+1) h ps = none:=by
  obtain ⟨f,hf,hb⟩:=hs
  cases f with
  | zero => simp at hf;omega
  | succ f => exact ⟨f,hf,hb⟩
theorem SaysN.lone {n:Nat} {h:α} {ps:List α} (hs:SaysN node n n h ps) (hn:0 < n) (he:n % 2 = 0):SaysN node (n / 2) (n / 2) h ps:=by
  obtain ⟨f,hf,hb⟩:=hs.fuel node hn
  rw [Nat.pow_succ] at hf
  rw [bot_last node (by omega) ⟨he,by omega⟩,show (n+1+1) / 2 = n / 2+1 by omega] at hb
  exact ⟨f,by omega,hb⟩
theorem SaysN.odd {n l:Nat} {h p:α} {ps:List α} (hs:SaysN node n l h (p :: ps)) (hl:0 < l) (ho:n % 2 = 1):SaysN node (n / 2) (l / 2) (node p h) ps:=by
  obtain ⟨f,hf,hb⟩:=hs.fuel node hl
  rw [Nat.pow_succ] at hf
  rw [bot_odd node (by omega) ho,show (l+1+1) / 2 = l / 2+1 by omega] at hb
  exact ⟨f,by omega,hb⟩
theorem SaysN.even {n l:Nat} {h p:α} {ps:List α} (hs:SaysN node n l h (p :: ps)) (hl:0 < l) (he:n % 2 = 0) (hn:n ≠ l):SaysN node (n / 2) (l / 2) (node h p) ps:=by
  obtain ⟨f,hf,hb⟩:=hs.fuel node hl
  rw [Nat.pow_succ] at hf
  rw [bot_even node (by omega) he (by omega),show (l+1+1) / 2 = l / 2+1 by omega] at hb
  exact ⟨f,by omega,hb⟩
theorem SaysN.up {n:Nat} {h:α} {ps:List α} (hs:SaysN node n n h ps):∀ k,(∀ j,j < k → n / 2 ^ j % 2 = 0 ∧ n / 2 ^ j ≠ 0) → SaysN node (n / 2 ^ k) (n / 2 ^ k) h ps
  | 0,_ => by simpa using hs
  | k+1,hk => by
    have ih:=SaysN.up hs k (fun j hj => hk j (by omega))
    have h1:=hk k (by omega)
    have:=ih.lone node (Nat.pos_of_ne_zero h1.2) h1.1
    rwa [Nat.div_div_eq_div_mul,← Nat.pow_succ] at this
end
def LonePostN (n:Nat) (w:World) (e:Ending) (w':World):Prop:=∃ z:Nat,e = .returned (.tuple #[.int .u64 z,.int .u64 z]) ∧ z % 2 = 1 ∧ z ≤ n ∧ (∀ h ps,SaysN nodeH n n h ps → SaysN nodeH z z h ps) ∧ w = w'
theorem up_loneN (n:Nat) (w:World) (hn:n < 18446744073709551616) (h0:0 < n):Calls Tryz.prog 79 #[.int .u64 n,.int .u64 n] w (LonePostN n w) :=
  (up_any n n w hn hn).mono (fun e w' ⟨k,he,ho,hj,hw⟩ => by
    refine ⟨n / 2 ^ k,he,?_,Nat.div_le_self _ _,fun h ps hs => hs.up nodeH k hj,hw⟩
    rcases ho with q | q
    · exact q
    · exfalso
      cases k with
      | zero => simp at q;omega
      | succ k =>
        have h1:=hj k (by omega)
        have h2:n / 2 ^ (k+1) = n / 2 ^ k / 2:=by rw [Nat.div_div_eq_div_mul,← Nat.pow_succ]
        rw [h2] at q
        obtain ⟨y,hy⟩:∃ y,n / 2 ^ k = y:=⟨_,rfl⟩
        rw [hy] at h1 q
        omega)
set_option maxRecDepth 100000 in
set_option maxHeartbeats 8000000 in
theorem vroot_none (a : Nat → Addr) (B : Nat) (ix sz : Nat) (h : List UInt8) (ps : List (List UInt8)) (A : Option Addr) (m c : Nat) (w : World) (hE : Env B a w) (hh : h.length = 32) (hp : HIn w A m c ps) (h1 : ix < sz) (h2 : sz ≤ 9223372036854775808) (hs : SaysN nodeH ix (sz - 1) h ps) (hm9 : m ≤ 1000000000) :
    Calls Tryz.prog 50 #[.int .u64 ix,.int .u64 sz,hv h,.slice A m c] w fun e w' => e = .returned (.tuple #[hv zeroH,errV a 10]) ∧ Below w.heap.size w w':=by
  have HE:=Lib.hid hE
  have HP:=Lib.hid hp
  have HML:=Lib.hid hp.2.1
  have HNODE:=Lib.hid (fun x y w h1 h2 hE => hnode_any x y w h1 h2 (Env.tab (B:=B) (a:=a) hE))
  have HSAY:=Lib.hid hs
  obtain ⟨vh,evh,Hvh,Zvh,Ivh,Ovh⟩:=row_of h hh
  rw [evh]
  have HH:=Lib.hid (And.intro hh evh)
  obtain ⟨vz,ez,Hvz,Zvz,Ivz,Ovz⟩:=row_of zeroH zeroH_length
  have HVZ:Hid (vz = (List.replicate 32 (Value.int .u8 0)).toArray):=Lib.hid (by rw [zeroH_v] at ez;cases ez;rfl)
  have HZV:Hid (vz = #[.int .u8 0,.int .u8 0,.int .u8 0,.int .u8 0,.int .u8 0,.int .u8 0,.int .u8 0,.int .u8 0,.int .u8 0,.int .u8 0,.int .u8 0,.int .u8 0,.int .u8 0,.int .u8 0,.int .u8 0,.int .u8 0,.int .u8 0,.int .u8 0,.int .u8 0,.int .u8 0,.int .u8 0,.int .u8 0,.int .u8 0,.int .u8 0,.int .u8 0,.int .u8 0,.int .u8 0,.int .u8 0,.int .u8 0,.int .u8 0,.int .u8 0,.int .u8 0]):=Lib.hid (by rw [zeroH_v] at ez;cases ez;rfl)
  have EZ:=Lib.hid ez
  have hWB:Below w.heap.size w ((w.alloc (.cells vh 39)).alloc (.cells (List.replicate 32 (Value.int .u8 0)).toArray 39)):=((Below.refl _ _).alloc (Nat.le_refl _) _).alloc (by simp) _
  have hR6:((w.alloc (.cells vh 39)).alloc (.cells (List.replicate 32 (Value.int .u8 0)).toArray 39)).heap[w.heap.size]? = some (.cells vh 39 (0,0)):=by
    rw [((Below.refl _ (w.alloc (.cells vh 39))).alloc (Nat.le_refl _) _).block w.heap.size (by simp)];exact heap_at _ _ _ rfl
  have hR8:((w.alloc (.cells vh 39)).alloc (.cells (List.replicate 32 (Value.int .u8 0)).toArray 39)).heap[w.heap.size+1]? = some (.cells (List.replicate 32 (Value.int .u8 0)).toArray 39 (0,0)):=heap_at _ _ _ (by simp)
  have hsw:((w.alloc (.cells vh 39)).alloc (.cells (List.replicate 32 (Value.int .u8 0)).toArray 39)).heap.size = w.heap.size+2:=by simp
  obtain ⟨wv,hwv⟩:∃ wv,(w.alloc (.cells vh 39)).alloc (.cells (List.replicate 32 (Value.int .u8 0)).toArray 39) = wv:=⟨_,rfl⟩
  rw [hwv] at hWB hR6 hR8 hsw
  have HWV:=Lib.hid hwv
  simp only [List.replicate,List.toArray] at HWV
  have HR6:=Lib.hid hR6
  have HR8:=Lib.hid hR8
  have HSW:=Lib.hid hsw
  have HWB:=Lib.hid hWB
  have hd1:decide ((9223372036854775808:Int) < (sz:Int)) = false:=by simp;omega
  have hd2:decide ((sz:Int) ≤ (ix:Int)) = false:=by simp;omega
  have hsz1:(1:Int) ≤ sz:=by omega
  have HWR:Hid (IntKind.u64.wrap ((sz:Int) - 1) = (sz:Int) - 1):=Lib.hid (by exact IntWalk.u64_in _ (by omega))
  clear hE hp hs evh ez hwv hR6 hR8 hsw hWB
  go_enter Tryz.func50,Tryz.ntmps50
  go_upto_region 1 with fail
  rw [HWV.out]
  go_upto_region 3 with fail
  have gv:Below w.heap.size w wv:=HWB.out
  have hsv:w.heap.size+2 ≤ wv.heap.size:=by have:=HSW.out;omega
  have KV:Hid (∀ w',Gr wv w' → w'.heap[w.heap.size]? = some (.cells vh 39 (0,0))):=Lib.hid (fun w' h => (h.block _ (by omega)).trans HR6.out)
  refine wp_region_held_drew (S:=Gr wv) (by kernel_rfl) ((Gr.refl _).drew) (fun hHeld => ?_)
  refine tk (i:=0) (v:=?v1) rfl ?y1 ?r1
  case y1 => (intro w hSw;(try dsimp only at hSw);go_simp;(try with_reducible rfl))
  try simp only [pu]
  refine tk (i:=1) (v:=?v2) rfl ?y2 ?r2
  case y2 => (intro w hSw;(try dsimp only at hSw);go_simp;(try with_reducible rfl))
  try simp only [pu]
  refine tw (i:=2) rfl (yieldsIf_load_row (by rfl) 39 _ (by rfl) _ (by rfl) 39 vh (0,0) _ (fun w h => KV.out w h) Tryz.underlying39 rfl Ivh.out) ?_
  try simp only [pu]
  refine wpAnyH_ready (rs:=[3]) (by kernel_rfl) (by simp) ?_
  refine AllReadyH.cons (i:=3) rfl (fun K2 hK2 => ?_) AllReadyH.nil
  go_simp
  obtain ⟨wa,hwa⟩:∃ x,(wv.alloc (.cells (List.replicate 32 (Value.int .u8 0)).toArray 39)).drew = x:=⟨_,rfl⟩
  have ba:Below wv.heap.size wv wa:=by rw [← hwa];exact ((Below.refl _ wv).alloc (Nat.le_refl _) _).drew
  have Ra:Hid (wa.heap[wv.heap.size]? = some (.cells (List.replicate 32 (Value.int .u8 0)).toArray 39 (0,0))):=Lib.hid (by rw [← hwa];exact heap_at wv _ _ rfl)
  have hsa:wv.heap.size+1 ≤ wa.heap.size:=by rw [← hwa];simp
  simp only [List.replicate] at hwa
  rw [hwa]
  clear hwa
  refine hK2.out _ _ (show Gr wv _ from (by repeat (first | exact Gr.refl _ | (refine Gr.step ?_ (by assumption)) | (refine Gr.alloc ?_ _) | (refine Gr.drew ?_)))) (fun hHeld2 => ?_)
  clear hK2 K2
  try simp only [pu]
  refine tk (i:=4) (v:=?v4) rfl ?y4 ?r4
  case y4 => (intro w hSw;(try dsimp only at hSw);go_simp;(try with_reducible rfl))
  try simp only [pu]
  refine wpAnyH_ready (rs:=[5]) (by kernel_rfl) (by simp) ?_
  refine AllReadyH.cons (i:=5) rfl (fun K2 hK2 => ?_) AllReadyH.nil
  rw [if_pos (by rfl)]
  refine wp_store_row 39 _ _ rfl wv.heap.size vh rfl rfl 39 _ Ra.out Ivh.out (by rw [Zvh.out];simp) Ovh.out ?_
  refine hK2.out _ _ (show Gr wv _ from below_setRow (show Gr wv wa from (by repeat (first | exact Gr.refl _ | (refine Gr.step ?_ (by assumption)) | (refine Gr.alloc ?_ _) | (refine Gr.drew ?_)))) _ _ (Nat.le_refl _)) (fun hHeld2 => ?_)
  clear hK2 K2
  try simp only [pu]
  refine wpAnyH_done (by kernel_rfl) ?_ _
  have HBL:Hid (Below w.heap.size w (wa.setRow wv.heap.size vh)):=Lib.hid (below_setRow (show Gr w wa from (by repeat (first | exact Gr.refl _ | (refine Gr.step ?_ (by assumption)) | (refine Gr.alloc ?_ _) | (refine Gr.drew ?_)))) _ _ (by omega))
  have HRL:Hid ((wa.setRow wv.heap.size vh).heap[wv.heap.size]? = some (.cells vh 39 (0,0))):=Lib.hid (setRow_heap _ _ _ _ _ _ Ra.out)
  have HR8L:Hid ((wa.setRow wv.heap.size vh).heap[w.heap.size+1]? = some (.cells (List.replicate 32 (Value.int .u8 0)).toArray 39 (0,0))):=Lib.hid (by
    rw [setRow_other _ _ _ _ (by omega)];exact (ba.block _ (by omega)).trans HR8.out)
  have hsL:wv.heap.size+1 ≤ (wa.setRow wv.heap.size vh).heap.size:=by simp;omega
  obtain ⟨wL,hwL⟩:∃ x,wa.setRow wv.heap.size vh = x:=⟨_,rfl⟩
  rw [hwL] at HBL HRL HR8L hsL ⊢
  rw [HWR.out]
  clear hwL ba Ra hsa gv
  go_wp2_with fail
  go_loopw [0,10,28] (fun n l i wr => ∃ (k x y:Nat) (cur:List UInt8),k ≤ m ∧ i = .int .i64 k ∧ n = .int .u64 x ∧ l = .int .u64 y ∧ x ≤ y ∧ y < 9223372036854775808 ∧ Hid (cur.length = 32 ∧ SaysN nodeH x y cur (ps.drop k)) ∧ Hid (wr.heap[wv.heap.size]? = some (.cells (bytesV cur).toArray 39 (0,0))) ∧ Hid (wr.heap[w.heap.size+1]? = some (.cells (List.replicate 32 (Value.int .u8 0)).toArray 39 (0,0))) ∧ Hid (Below w.heap.size w wr) ∧ wv.heap.size+1 ≤ wr.heap.size) (fun _ _ i _ => m - (intOf i).toNat)
  case atStart => exact ⟨0,ix,sz - 1,h,Nat.zero_le _,rfl,rfl,by go_num,by omega,by omega,Lib.hid ⟨HH.out.1,HSAY.out⟩,Lib.hid (by rw [Hvh.out];exact HRL.out),HR8L,HBL,hsL⟩
  case round =>
    obtain ⟨k,x,y,cur,hk,rfl,rfl,rfl,hxy,hy9,HC,R11,R8,HB,hsr⟩:=hrel
    obtain ⟨vc,evc,Hvc,Zvc,Ivc,Ovc⟩:=row_of cur HC.out.1
    rw [Hvc.out] at R11
    have EVC:=Lib.hid evc
    clear evc
    by_cases hlt:k < m
    · obtain ⟨p,hp⟩:∃ p,ps[k]? = some p:=⟨_,List.getElem?_eq_getElem (by have:=HML.out;omega)⟩
      have HDR:Hid (ps.drop k = p :: ps.drop (k+1)):=Lib.hid (by
        have hkl:k < ps.length:=by have:=HML.out;omega
        rw [List.drop_eq_getElem_cons hkl];congr 1
        rw [List.getElem?_eq_getElem hkl] at hp;exact Option.some.inj hp)
      obtain ⟨g,o,rfl,gl,rp,pl⟩:=HP.out.row hp
      obtain ⟨vp,evp,Hvp,Zvp,Ivp,Ovp⟩:=row_of p pl
      have EVP:=Lib.hid evp
      have HPL:=Lib.hid pl
      obtain ⟨pp,hpp⟩:∃ q,bytesV p = q:=⟨_,rfl⟩
      have HPV:Hid (pp.toArray = vp):=Lib.hid (by rw [← hpp];exact Hvp.out)
      have HIP:Hid ((Tryz.prog.info? 39).map (·.size) = some pp.length):=Lib.hid (by rw [← hpp,bytesV_length,pl];kernel_rfl)
      have HR:Hid (wr.rangeAt g (o+k * 32) pp):=Lib.hid (by rw [← hpp];exact rangeAt_below HB.out rp gl)
      have i0:(0:Int) ≤ k:=by omega
      have i1:(k:Int) < m:=by omega
      have hsb:=HB.out.size
      by_cases hy0:y = 0
      · have hyb:((y:Int) == 0) = true:=by simp;omega
        clear hp evp pl hpp rp gl
        go_upto_region 7 with (first
          | (refine wpList_load_mid rfl 39 _ rfl g (o+k * 32) rfl pp _ HR.out Tryz.underlying39 rfl HIP.out ?_;rw [HPV.out])
          | (refine wpList_store_row_any rfl 39 _ _ rfl wr.heap.size vp rfl rfl 39 _ (heap_at _ _ _ rfl) Ivp.out (by rw [Zvp.out];rfl) Ovp.out ?_;intro w3 hbN hgN hsN;have b3:Below wr.heap.size wr w3:=((Below.refl _ wr).alloc (Nat.le_refl _) _).trans (hbN.to_below (by simp) (fun k hk q => by omega));have R13:=Lib.hid hgN;clear hbN hgN hsN))
        have HB3:Hid (Below w.heap.size w w3):=Lib.hid (HB.out.trans (b3.mono HB.out.size))
        have R8b:Hid (w3.heap[w.heap.size+1]? = some (.cells (List.replicate 32 (Value.int .u8 0)).toArray 39 (0,0))):=Lib.hid ((b3.block _ (by omega)).trans R8.out)
        clear b3
        go_upto_region 8 with fail
        refine wp_region_held_drew (S:=Gr w) (by kernel_rfl) (Gr.drew (show Gr w w3 from HB3.out)) (fun hHeld => ?_)
        refine tw (i:=0) rfl (show YieldsIf _ _ _ _ (.agg vz) _ from .inl ⟨by rfl,fun w h => by rw [HZV.out];kernel_rfl⟩) ?_
        try simp only [pu]
        refine tk (i:=1) (v:=?v6) rfl ?y6 ?r6
        case y6 => (intro w hSw;(try dsimp only at hSw);have q9:=cell_below hSw (HE.out.laid.e10) (block_of_cell HE.out.laid.e10);go_simp;(try with_reducible rfl))
        try simp only [pu]
        refine wpAnyH_ready (rs:=[2]) (by kernel_rfl) (by simp) ?_
        refine AllReadyH.cons (i:=2) rfl (fun K2 hK2 => ?_) AllReadyH.nil
        rw [if_pos (by rfl)]
        refine wp_store_row 39 _ _ rfl (w.heap.size+1) vz rfl rfl 39 _ R8b.out Ivz.out (by rw [Zvz.out];simp) Ovz.out ?_
        refine hK2.out _ _ (show Gr w _ from below_setRow (show Below w.heap.size w w3.drew from Below.drew (HB3.out)) _ _ (by omega)) (fun hHeld2 => ?_)
        clear hK2 K2
        try simp only [pu]
        refine tk (i:=3) (v:=?v7) rfl ?y7 ?r7
        case y7 => (intro w hSw;(try dsimp only at hSw);go_simp;(try with_reducible rfl))
        try simp only [pu]
        refine wpAnyH_done (by kernel_rfl) ?_ _
        go_wp2
        refine bodyPost_ret (v:=.tuple #[.agg vz,errV a 10]) (results_row_tmp rfl _ _ (w.heap.size+1) 39 vz (0,0) _ rfl (setRow_heap w3.drew _ _ _ _ _ R8b.out) Tryz.underlying39 rfl Ivz.out _ rfl) rfl ⟨by rw [EZ.out],hHeld2⟩
      · have hyb:((y:Int) == 0) = false:=by simp;omega
        have SC:Hid (SaysN nodeH x y cur (p :: ps.drop (k+1))):=Lib.hid (by have:=HC.out.2;rwa [HDR.out] at this)
        have ha:=and_one x (by omega)
        have hx9:(x:Int) < 18446744073709551616:=by omega
        have hy9':(y:Int) < 18446744073709551616:=by omega
        clear hp evp pl hpp rp gl
        by_cases ho:x % 2 = 1
        · have t1:(bits .and .u64 (x:Int) 1 == 1) = true:=by rw [ha,ho];rfl
          have SN:Hid (SaysN nodeH (x / 2) (y / 2) (nodeH p cur) (ps.drop (k+1))):=Lib.hid (SC.out.odd nodeH (by omega) ho)
          have HUP:=Lib.hid (fun w => up_odd x y w (by omega) (by omega) ho)
          clear ha ho
          obtain ⟨vn,evn,Hvn,Zvn,Ivn,Ovn⟩:=row_of (nodeH p cur) (nodeH_length _ _)
          have HN:Hid (∀ w,Env B a w → Calls Tryz.prog 58 #[.agg vp,.agg vc] w fun ev w' => ev = .returned (.agg vn) ∧ Below w.heap.size w w'):=Lib.hid (fun w h => by
            have:=HNODE.out _ _ w HPL.out HC.out.1 h
            rw [EVP.out,EVC.out,evn] at this;exact this)
          clear evn
          go_upto_region 9 with (first
            | (refine wpList_load_mid rfl 39 _ rfl g (o+k * 32) rfl pp _ HR.out Tryz.underlying39 rfl HIP.out ?_;rw [HPV.out])
            | (refine wpList_store_row_any rfl 39 _ _ rfl wr.heap.size vp rfl rfl 39 _ (heap_at _ _ _ rfl) Ivp.out (by rw [Zvp.out];rfl) Ovp.out ?_;intro w3 hbN hgN hsN;have b3:Below wr.heap.size wr w3:=((Below.refl _ wr).alloc (Nat.le_refl _) _).trans (hbN.to_below (by simp) (fun k hk q => by omega));have R13:=Lib.hid hgN;clear hbN hgN hsN))
          have R11b:Hid (w3.heap[wv.heap.size]? = some (.cells vc 39 (0,0))):=Lib.hid ((b3.block _ (by omega)).trans R11.out)
          go_wp2_with (first | (refine wpList_load_row rfl 39 _ rfl wr.heap.size rfl 39 vp (0,0) _ R13.out Tryz.underlying39 rfl Ivp.out ?_) | (refine wpList_load_row rfl 39 _ rfl wv.heap.size rfl 39 vc (0,0) _ R11b.out Tryz.underlying39 rfl Ivc.out ?_))
          refine (HN.out w3 (HE.out.step (HB.out.trans (b3.mono HB.out.size)))).mono ?_
          rintro ev w4 ⟨rfl,b4⟩
          have R11c:Hid (w4.heap[wv.heap.size]? = some (.cells vc 39 (0,0))):=Lib.hid ((b4.block _ (Array.getElem?_eq_some_iff.1 R11b.out).1).trans R11b.out)
          have b14:Below wr.heap.size wr w4:=b3.trans (b4.mono b3.size)
          have R8c:Hid (w4.heap[w.heap.size+1]? = some (.cells (List.replicate 32 (Value.int .u8 0)).toArray 39 (0,0))):=Lib.hid ((b14.block _ (by omega)).trans R8.out)
          have hsz4:=b14.size
          go_upto_region 11 with (refine wpList_store_row_any rfl 39 _ _ rfl wv.heap.size vn rfl rfl 39 _ R11c.out Ivn.out (by rw [Zvc.out,Zvn.out]) Ovn.out ?_;intro w5 hbN hgN hsN;have R11d:=Lib.hid hgN;have B5:=Lib.hid (And.intro hbN hsN);clear hbN hgN hsN)
          go_wp2_with fail
          refine (HUP.out w5).mono ?_
          rintro ev w6 ⟨rfl,rfl⟩
          go_wp2
          go_roundw
          case rel => exact ⟨k+1,x / 2,y / 2,nodeH p cur,by omega,by go_num,by go_num,by go_num,by omega,by omega,Lib.hid ⟨nodeH_length _ _,SN.out⟩,Lib.hid (by rw [show (bytesV (nodeH p cur)).toArray = vn from Hvn.out];exact R11d.out),Lib.hid ((B5.out.1.same _ (by omega) (by omega)).trans R8c.out),Lib.hid ((HB.out.trans (b14.mono HB.out.size)).trans (B5.out.1.to_below (by omega) (fun k hk q => by omega))),by have:=B5.out.2;omega⟩
          case measure => simp [intOf];omega
        · have t1:(bits .and .u64 (x:Int) 1 == 1) = false:=by rw [ha];simp;omega
          have he:x % 2 = 0:=by omega
          by_cases hxe:x = y
          · subst hxe
            have t2:((x:Int) == (x:Int)) = true:=by simp
            have HUP:=Lib.hid (fun w => up_loneN x w (by omega) (by omega))
            clear ha ho he
            obtain ⟨vn,evn,Hvn,Zvn,Ivn,Ovn⟩:=row_of (nodeH p cur) (nodeH_length _ _)
            have HN:Hid (∀ w,Env B a w → Calls Tryz.prog 58 #[.agg vp,.agg vc] w fun ev w' => ev = .returned (.agg vn) ∧ Below w.heap.size w w'):=Lib.hid (fun w h => by
              have:=HNODE.out _ _ w HPL.out HC.out.1 h
              rw [EVP.out,EVC.out,evn] at this;exact this)
            clear evn
            go_upto_region 9 with (first
              | (refine wpList_load_mid rfl 39 _ rfl g (o+k * 32) rfl pp _ HR.out Tryz.underlying39 rfl HIP.out ?_;rw [HPV.out])
              | (refine wpList_store_row_any rfl 39 _ _ rfl wr.heap.size vp rfl rfl 39 _ (heap_at _ _ _ rfl) Ivp.out (by rw [Zvp.out];rfl) Ovp.out ?_;intro w3 hbN hgN hsN;have b3:Below wr.heap.size wr w3:=((Below.refl _ wr).alloc (Nat.le_refl _) _).trans (hbN.to_below (by simp) (fun k hk q => by omega));have R13:=Lib.hid hgN;clear hbN hgN hsN))
            have R11b:Hid (w3.heap[wv.heap.size]? = some (.cells vc 39 (0,0))):=Lib.hid ((b3.block _ (by omega)).trans R11.out)
            go_wp2_with (first | (refine wpList_load_row rfl 39 _ rfl wr.heap.size rfl 39 vp (0,0) _ R13.out Tryz.underlying39 rfl Ivp.out ?_) | (refine wpList_load_row rfl 39 _ rfl wv.heap.size rfl 39 vc (0,0) _ R11b.out Tryz.underlying39 rfl Ivc.out ?_))
            refine (HN.out w3 (HE.out.step (HB.out.trans (b3.mono HB.out.size)))).mono ?_
            rintro ev w4 ⟨rfl,b4⟩
            have R11c:Hid (w4.heap[wv.heap.size]? = some (.cells vc 39 (0,0))):=Lib.hid ((b4.block _ (Array.getElem?_eq_some_iff.1 R11b.out).1).trans R11b.out)
            have b14:Below wr.heap.size wr w4:=b3.trans (b4.mono b3.size)
            have R8c:Hid (w4.heap[w.heap.size+1]? = some (.cells (List.replicate 32 (Value.int .u8 0)).toArray 39 (0,0))):=Lib.hid ((b14.block _ (by omega)).trans R8.out)
            have hsz4:=b14.size
            go_upto_region 11 with (refine wpList_store_row_any rfl 39 _ _ rfl wv.heap.size vn rfl rfl 39 _ R11c.out Ivn.out (by rw [Zvc.out,Zvn.out]) Ovn.out ?_;intro w5 hbN hgN hsN;have R11d:=Lib.hid hgN;have B5:=Lib.hid (And.intro hbN hsN);clear hbN hgN hsN)
            go_wp2_with fail
            refine (HUP.out w5).mono ?_
            rintro ev w6 ⟨z,rfl,hzo,hzx,hzs,rfl⟩
            have SN:Hid (SaysN nodeH (z / 2) (z / 2) (nodeH p cur) (ps.drop (k+1))):=Lib.hid ((hzs _ _ SC.out).odd nodeH (by omega) hzo)
            clear hzo hzs
            go_wp2
            go_roundw
            case rel => exact ⟨k+1,z / 2,z / 2,nodeH p cur,by omega,by go_num,by go_num,by go_num,by omega,by omega,Lib.hid ⟨nodeH_length _ _,SN.out⟩,Lib.hid (by rw [show (bytesV (nodeH p cur)).toArray = vn from Hvn.out];exact R11d.out),Lib.hid ((B5.out.1.same _ (by omega) (by omega)).trans R8c.out),Lib.hid ((HB.out.trans (b14.mono HB.out.size)).trans (B5.out.1.to_below (by omega) (fun k hk q => by omega))),by have:=B5.out.2;omega⟩
            case measure => simp [intOf];omega
          · have t2:((x:Int) == (y:Int)) = false:=by simp;omega
            have SN:Hid (SaysN nodeH (x / 2) (y / 2) (nodeH cur p) (ps.drop (k+1))):=Lib.hid (SC.out.even nodeH (by omega) he hxe)
            clear ha ho he
            obtain ⟨vn,evn,Hvn,Zvn,Ivn,Ovn⟩:=row_of (nodeH cur p) (nodeH_length _ _)
            have HN:Hid (∀ w,Env B a w → Calls Tryz.prog 58 #[.agg vc,.agg vp] w fun ev w' => ev = .returned (.agg vn) ∧ Below w.heap.size w w'):=Lib.hid (fun w h => by
              have:=HNODE.out _ _ w HC.out.1 HPL.out h
              rw [EVP.out,EVC.out,evn] at this;exact this)
            clear evn
            go_upto_region 9 with (first
              | (refine wpList_load_mid rfl 39 _ rfl g (o+k * 32) rfl pp _ HR.out Tryz.underlying39 rfl HIP.out ?_;rw [HPV.out])
              | (refine wpList_store_row_any rfl 39 _ _ rfl wr.heap.size vp rfl rfl 39 _ (heap_at _ _ _ rfl) Ivp.out (by rw [Zvp.out];rfl) Ovp.out ?_;intro w3 hbN hgN hsN;have b3:Below wr.heap.size wr w3:=((Below.refl _ wr).alloc (Nat.le_refl _) _).trans (hbN.to_below (by simp) (fun k hk q => by omega));have R13:=Lib.hid hgN;clear hbN hgN hsN))
            have R11b:Hid (w3.heap[wv.heap.size]? = some (.cells vc 39 (0,0))):=Lib.hid ((b3.block _ (by omega)).trans R11.out)
            go_wp2_with (first | (refine wpList_load_row rfl 39 _ rfl wr.heap.size rfl 39 vp (0,0) _ R13.out Tryz.underlying39 rfl Ivp.out ?_) | (refine wpList_load_row rfl 39 _ rfl wv.heap.size rfl 39 vc (0,0) _ R11b.out Tryz.underlying39 rfl Ivc.out ?_))
            refine (HN.out w3 (HE.out.step (HB.out.trans (b3.mono HB.out.size)))).mono ?_
            rintro ev w4 ⟨rfl,b4⟩
            have R11c:Hid (w4.heap[wv.heap.size]? = some (.cells vc 39 (0,0))):=Lib.hid ((b4.block _ (Array.getElem?_eq_some_iff.1 R11b.out).1).trans R11b.out)
            have b14:Below wr.heap.size wr w4:=b3.trans (b4.mono b3.size)
            have R8c:Hid (w4.heap[w.heap.size+1]? = some (.cells (List.replicate 32 (Value.int .u8 0)).toArray 39 (0,0))):=Lib.hid ((b14.block _ (by omega)).trans R8.out)
            have hsz4:=b14.size
            go_upto_region 13 with (refine wpList_store_row_any rfl 39 _ _ rfl wv.heap.size vn rfl rfl 39 _ R11c.out Ivn.out (by rw [Zvc.out,Zvn.out]) Ovn.out ?_;intro w5 hbN hgN hsN;have R11d:=Lib.hid hgN;have B5:=Lib.hid (And.intro hbN hsN);clear hbN hgN hsN)
            go_wp2
            go_roundw
            case rel => exact ⟨k+1,x / 2,y / 2,nodeH cur p,by omega,by go_num,by go_num,by go_num,by omega,by omega,Lib.hid ⟨nodeH_length _ _,SN.out⟩,Lib.hid (by rw [show (bytesV (nodeH cur p)).toArray = vn from Hvn.out];exact R11d.out),Lib.hid ((B5.out.1.same _ (by omega) (by omega)).trans R8c.out),Lib.hid ((HB.out.trans (b14.mono HB.out.size)).trans (B5.out.1.to_below (by omega) (fun k hk q => by omega))),by have:=B5.out.2;omega⟩
            case measure => simp [intOf];omega
    · obtain rfl:k = m:=by omega
      have hy0:y ≠ 0:=by
        have:=HC.out.2
        rw [List.drop_eq_nil_of_le (by have:=HML.out;omega)] at this
        exact this.nil nodeH
      have hyb:((y:Int) != 0) = true:=by simp;omega
      go_upto_region 17 with fail
      refine wp_region_held_drew (S:=Gr w) (by kernel_rfl) (Gr.drew (show Gr w wr from HB.out)) (fun hHeld => ?_)
      refine tw (i:=0) rfl (show YieldsIf _ _ _ _ (.agg vz) _ from .inl ⟨by rfl,fun w h => by rw [HZV.out];kernel_rfl⟩) ?_
      try simp only [pu]
      refine tk (i:=1) (v:=?v9) rfl ?y9 ?r9
      case y9 => (intro w hSw;(try dsimp only at hSw);have q9:=cell_below hSw (HE.out.laid.e10) (block_of_cell HE.out.laid.e10);go_simp;(try with_reducible rfl))
      try simp only [pu]
      refine wpAnyH_ready (rs:=[2]) (by kernel_rfl) (by simp) ?_
      refine AllReadyH.cons (i:=2) rfl (fun K2 hK2 => ?_) AllReadyH.nil
      rw [if_pos (by rfl)]
      refine wp_store_row 39 _ _ rfl (w.heap.size+1) vz rfl rfl 39 _ R8.out Ivz.out (by rw [Zvz.out];simp) Ovz.out ?_
      refine hK2.out _ _ (show Gr w _ from below_setRow (show Below w.heap.size w wr.drew from Below.drew (HB.out)) _ _ (by omega)) (fun hHeld2 => ?_)
      clear hK2 K2
      try simp only [pu]
      refine tk (i:=3) (v:=?v10) rfl ?y10 ?r10
      case y10 => (intro w hSw;(try dsimp only at hSw);go_simp;(try with_reducible rfl))
      try simp only [pu]
      refine wpAnyH_done (by kernel_rfl) ?_ _
      go_wp2
      refine bodyPost_ret (v:=.tuple #[.agg vz,errV a 10]) (results_row_tmp rfl _ _ (w.heap.size+1) 39 vz (0,0) _ rfl (setRow_heap wr.drew _ _ _ _ _ R8.out) Tryz.underlying39 rfl Ivz.out _ rfl) rfl ⟨by rw [EZ.out],hHeld2⟩

set_option maxRecDepth 100000 in
set_option maxHeartbeats 8000000 in
theorem vroot_off (a : Nat → Addr) (B : Nat) (ix sz : Nat) (h : List UInt8) (A : Option Addr) (m c : Nat) (w : World) (hE : Env B a w) (hh : h.length = 32) (h1 : sz ≤ ix) (h2 : sz ≤ 9223372036854775808) :
    Calls Tryz.prog 50 #[.int .u64 ix,.int .u64 sz,hv h,.slice A m c] w fun e w' => e = .returned (.tuple #[hv zeroH,errV a 5]) ∧ Below w.heap.size w w':=by
  have HE:=Lib.hid hE
  obtain ⟨vh,evh,Hvh,Zvh,Ivh,Ovh⟩:=row_of h hh
  rw [evh]
  have HH:=Lib.hid (And.intro hh evh)
  obtain ⟨vz,ez,Hvz,Zvz,Ivz,Ovz⟩:=row_of zeroH zeroH_length
  have HVZ:Hid (vz = (List.replicate 32 (Value.int .u8 0)).toArray):=Lib.hid (by rw [zeroH_v] at ez;cases ez;rfl)
  have HZV:Hid (vz = #[.int .u8 0,.int .u8 0,.int .u8 0,.int .u8 0,.int .u8 0,.int .u8 0,.int .u8 0,.int .u8 0,.int .u8 0,.int .u8 0,.int .u8 0,.int .u8 0,.int .u8 0,.int .u8 0,.int .u8 0,.int .u8 0,.int .u8 0,.int .u8 0,.int .u8 0,.int .u8 0,.int .u8 0,.int .u8 0,.int .u8 0,.int .u8 0,.int .u8 0,.int .u8 0,.int .u8 0,.int .u8 0,.int .u8 0,.int .u8 0,.int .u8 0,.int .u8 0]):=Lib.hid (by rw [zeroH_v] at ez;cases ez;rfl)
  have EZ:=Lib.hid ez
  have hWB:Below w.heap.size w ((w.alloc (.cells vh 39)).alloc (.cells (List.replicate 32 (Value.int .u8 0)).toArray 39)):=((Below.refl _ _).alloc (Nat.le_refl _) _).alloc (by simp) _
  have hR6:((w.alloc (.cells vh 39)).alloc (.cells (List.replicate 32 (Value.int .u8 0)).toArray 39)).heap[w.heap.size]? = some (.cells vh 39 (0,0)):=by
    rw [((Below.refl _ (w.alloc (.cells vh 39))).alloc (Nat.le_refl _) _).block w.heap.size (by simp)];exact heap_at _ _ _ rfl
  have hR8:((w.alloc (.cells vh 39)).alloc (.cells (List.replicate 32 (Value.int .u8 0)).toArray 39)).heap[w.heap.size+1]? = some (.cells (List.replicate 32 (Value.int .u8 0)).toArray 39 (0,0)):=heap_at _ _ _ (by simp)
  have hsw:((w.alloc (.cells vh 39)).alloc (.cells (List.replicate 32 (Value.int .u8 0)).toArray 39)).heap.size = w.heap.size+2:=by simp
  obtain ⟨wv,hwv⟩:∃ wv,(w.alloc (.cells vh 39)).alloc (.cells (List.replicate 32 (Value.int .u8 0)).toArray 39) = wv:=⟨_,rfl⟩
  rw [hwv] at hWB hR6 hR8 hsw
  have HWV:=Lib.hid hwv
  simp only [List.replicate,List.toArray] at HWV
  have HR6:=Lib.hid hR6
  have HR8:=Lib.hid hR8
  have HSW:=Lib.hid hsw
  have HWB:=Lib.hid hWB
  have hd1:decide ((9223372036854775808:Int) < (sz:Int)) = false:=by simp;omega
  have hd2:decide ((sz:Int) ≤ (ix:Int)) = true:=by simp;omega
  clear hE evh ez hwv hR6 hR8 hsw hWB
  go_enter Tryz.func50,Tryz.ntmps50
  go_upto_region 1 with fail
  rw [HWV.out]
  go_upto_region 2 with fail
  refine wp_region_held_drew (S:=Gr w) (by kernel_rfl) (Gr.drew (show Gr w wv from HWB.out)) (fun hHeld => ?_)
  refine tw (i:=0) rfl (show YieldsIf _ _ _ _ (.agg vz) _ from .inl ⟨by rfl,fun w h => by rw [HZV.out];kernel_rfl⟩) ?_
  try simp only [pu]
  refine tk (i:=1) (v:=?v12) rfl ?y12 ?r12
  case y12 => (intro w hSw;(try dsimp only at hSw);have q9:=cell_below hSw (HE.out.laid.e5) (block_of_cell HE.out.laid.e5);go_simp;(try with_reducible rfl))
  try simp only [pu]
  refine wpAnyH_ready (rs:=[2]) (by kernel_rfl) (by simp) ?_
  refine AllReadyH.cons (i:=2) rfl (fun K2 hK2 => ?_) AllReadyH.nil
  rw [if_pos (by rfl)]
  refine wp_store_row 39 _ _ rfl (w.heap.size+1) vz rfl rfl 39 _ HR8.out Ivz.out (by rw [Zvz.out];simp) Ovz.out ?_
  refine hK2.out _ _ (show Gr w _ from below_setRow (show Below w.heap.size w wv.drew from Below.drew (HWB.out)) _ _ (by omega)) (fun hHeld2 => ?_)
  clear hK2 K2
  try simp only [pu]
  refine tk (i:=3) (v:=?v13) rfl ?y13 ?r13
  case y13 => (intro w hSw;(try dsimp only at hSw);go_simp;(try with_reducible rfl))
  try simp only [pu]
  refine wpAnyH_done (by kernel_rfl) ?_ _
  go_wp2
  refine bodyPost_ret (v:=.tuple #[.agg vz,errV a 5]) (results_row_tmp rfl _ _ (w.heap.size+1) 39 vz (0,0) _ rfl (setRow_heap wv.drew _ _ _ _ _ HR8.out) Tryz.underlying39 rfl Ivz.out _ rfl) rfl ⟨by rw [EZ.out],hHeld2⟩

set_option maxRecDepth 100000 in
set_option maxHeartbeats 4000000 in
theorem vincl_none (a : Nat → Addr) (B : Nat) (ix sz : Nat) (h r : List UInt8) (A : Option Addr) (m c : Nat) (ps : List (List UInt8)) (w : World) (hE : Env B a w) (hh : h.length = 32) (hr : r.length = 32) (hp : HIn w A m c ps) (h1 : ix < sz) (h2 : sz ≤ 9223372036854775808) (hs : SaysN nodeH ix (sz - 1) h ps) (hm9 : m ≤ 1000000000) :
    Calls Tryz.prog 21 #[.int .u64 ix,.int .u64 sz,hv h,.slice A m c,hv r] w fun e w' => e = .returned (errV a 10) ∧ Below w.heap.size w w':=by
  obtain ⟨vh,evh,Hvh,Zvh,Ivh,Ovh⟩:=row_of h hh
  obtain ⟨vr,evr,Hvr,Zvr,Ivr,Ovr⟩:=row_of r hr
  obtain ⟨vz,evz,Hvz,Zvz,Ivz,Ovz⟩:=row_of zeroH zeroH_length
  have hB0:Below w.heap.size w ((w.alloc (.cells vh 39)).alloc (.cells vr 39)):=((Below.refl _ _).alloc (Nat.le_refl _) _).alloc (by simp) _
  have hR7:((w.alloc (.cells vh 39)).alloc (.cells vr 39)).heap[w.heap.size]? = some (.cells vh 39 (0,0)):=by
    rw [((Below.refl _ (w.alloc (.cells vh 39))).alloc (Nat.le_refl _) _).block w.heap.size (by simp)];exact heap_at _ _ _ rfl
  obtain ⟨wv,hwv⟩:∃ wv,(w.alloc (.cells vh 39)).alloc (.cells vr 39) = wv:=⟨_,rfl⟩
  rw [hwv] at hB0 hR7
  have HROOT:Hid (Calls Tryz.prog 50 #[.int .u64 ix,.int .u64 sz,.agg vh,.slice A m c] wv fun e w' => e = .returned (.tuple #[.agg vz,errV a 10]) ∧ Below wv.heap.size wv w'):=Lib.hid (by
    have:=vroot_none a B ix sz h ps A m c wv (hE.step hB0) hh (hp.below hB0) h1 h2 hs hm9
    rw [evh,evz] at this
    exact this)
  have HWV:=Lib.hid hwv
  have HB:=Lib.hid hB0
  have R7:=Lib.hid hR7
  rw [evh,evr]
  clear hE evh evr evz hwv hB0 hR7 hh hr hp hs
  unfold errV at HROOT ⊢
  go_enter Tryz.func21,Tryz.ntmps21
  go_upto_region 1 with fail
  rw [HWV.out]
  go_wp2_with (refine wpList_load_row rfl 39 _ rfl w.heap.size rfl 39 vh (0,0) _ R7.out Tryz.underlying39 rfl Ivh.out ?_)
  refine HROOT.out.mono ?_
  rintro ev w1 ⟨rfl,b1⟩
  go_upto_region 2 with (refine wpList_store_row_any rfl 39 _ _ rfl w1.heap.size vz rfl rfl 39 _ (heap_at _ _ _ rfl) Ivz.out (by rw [Zvz.out];rfl) Ovz.out ?_;intro w2 hbN hgN hsN;have b2:Below w1.heap.size w1 w2:=((Below.refl _ w1).alloc (Nat.le_refl _) _).trans (hbN.to_below (by simp) (fun k hk q => by omega));clear hbN hgN hsN)
  have HF:Hid (Below w.heap.size w w2):=Lib.hid (HB.out.trans ((b1.trans (b2.mono b1.size)).mono HB.out.size))
  clear b1 b2
  go_wp2_with fail
  go_ret
  exact ⟨rfl,HF.out⟩

set_option maxRecDepth 100000 in
set_option maxHeartbeats 4000000 in
theorem vincl_off (a : Nat → Addr) (B : Nat) (ix sz : Nat) (h r : List UInt8) (A : Option Addr) (m c : Nat) (w : World) (hE : Env B a w) (hh : h.length = 32) (hr : r.length = 32) (h1 : sz ≤ ix) (h2 : sz ≤ 9223372036854775808) :
    Calls Tryz.prog 21 #[.int .u64 ix,.int .u64 sz,hv h,.slice A m c,hv r] w fun e w' => e = .returned (errV a 5) ∧ Below w.heap.size w w':=by
  obtain ⟨vh,evh,Hvh,Zvh,Ivh,Ovh⟩:=row_of h hh
  obtain ⟨vr,evr,Hvr,Zvr,Ivr,Ovr⟩:=row_of r hr
  obtain ⟨vz,evz,Hvz,Zvz,Ivz,Ovz⟩:=row_of zeroH zeroH_length
  have hB0:Below w.heap.size w ((w.alloc (.cells vh 39)).alloc (.cells vr 39)):=((Below.refl _ _).alloc (Nat.le_refl _) _).alloc (by simp) _
  have hR7:((w.alloc (.cells vh 39)).alloc (.cells vr 39)).heap[w.heap.size]? = some (.cells vh 39 (0,0)):=by
    rw [((Below.refl _ (w.alloc (.cells vh 39))).alloc (Nat.le_refl _) _).block w.heap.size (by simp)];exact heap_at _ _ _ rfl
  obtain ⟨wv,hwv⟩:∃ wv,(w.alloc (.cells vh 39)).alloc (.cells vr 39) = wv:=⟨_,rfl⟩
  rw [hwv] at hB0 hR7
  have HROOT:Hid (Calls Tryz.prog 50 #[.int .u64 ix,.int .u64 sz,.agg vh,.slice A m c] wv fun e w' => e = .returned (.tuple #[.agg vz,errV a 5]) ∧ Below wv.heap.size wv w'):=Lib.hid (by
    have:=vroot_off a B ix sz h A m c wv (hE.step hB0) hh h1 h2
    rw [evh,evz] at this
    exact this)
  have HWV:=Lib.hid hwv
  have HB:=Lib.hid hB0
  have R7:=Lib.hid hR7
  rw [evh,evr]
  clear hE evh evr evz hwv hB0 hR7 hh hr
  unfold errV at HROOT ⊢
  go_enter Tryz.func21,Tryz.ntmps21
  go_upto_region 1 with fail
  rw [HWV.out]
  go_wp2_with (refine wpList_load_row rfl 39 _ rfl w.heap.size rfl 39 vh (0,0) _ R7.out Tryz.underlying39 rfl Ivh.out ?_)
  refine HROOT.out.mono ?_
  rintro ev w1 ⟨rfl,b1⟩
  go_upto_region 2 with (refine wpList_store_row_any rfl 39 _ _ rfl w1.heap.size vz rfl rfl 39 _ (heap_at _ _ _ rfl) Ivz.out (by rw [Zvz.out];rfl) Ovz.out ?_;intro w2 hbN hgN hsN;have b2:Below w1.heap.size w1 w2:=((Below.refl _ w1).alloc (Nat.le_refl _) _).trans (hbN.to_below (by simp) (fun k hk q => by omega));clear hbN hgN hsN)
  have HF:Hid (Below w.heap.size w w2):=Lib.hid (HB.out.trans ((b1.trans (b2.mono b1.size)).mono HB.out.size))
  clear b1 b2
  go_wp2_with fail
  go_ret
  exact ⟨rfl,HF.out⟩

set_option maxRecDepth 100000 in
set_option maxHeartbeats 4000000 in
theorem vincl_bad (a : Nat → Addr) (B : Nat) (ix sz : Nat) (h : List UInt8) (ps : List (List UInt8)) (r r2 : List UInt8) (A : Option Addr) (m c : Nat) (w : World) (hE : Env B a w) (hh : h.length = 32) (hr : r.length = 32) (hr2 : r2.length = 32) (hne : r ≠ r2) (hp : HIn w A m c ps) (h1 : ix < sz) (h2 : sz ≤ 9223372036854775808) (hs : Says nodeH ix (sz - 1) h ps r) (hm9 : m ≤ 1000000000) :
    Calls Tryz.prog 21 #[.int .u64 ix,.int .u64 sz,hv h,.slice A m c,hv r2] w fun e w' => e = .returned (errV a 10) ∧ Below w.heap.size w w':=by
  obtain ⟨vh,evh,Hvh,Zvh,Ivh,Ovh⟩:=row_of h hh
  obtain ⟨vr,evr,Hvr,Zvr,Ivr,Ovr⟩:=row_of r hr
  obtain ⟨vs,evs,Hvs,Zvs,Ivs,Ovs⟩:=row_of r2 hr2
  have hB0:Below w.heap.size w ((w.alloc (.cells vh 39)).alloc (.cells vs 39)):=((Below.refl _ _).alloc (Nat.le_refl _) _).alloc (by simp) _
  have hR7:((w.alloc (.cells vh 39)).alloc (.cells vs 39)).heap[w.heap.size]? = some (.cells vh 39 (0,0)):=by
    rw [((Below.refl _ (w.alloc (.cells vh 39))).alloc (Nat.le_refl _) _).block w.heap.size (by simp)];exact heap_at _ _ _ rfl
  have hR9:((w.alloc (.cells vh 39)).alloc (.cells vs 39)).heap[w.heap.size+1]? = some (.cells vs 39 (0,0)):=heap_at _ _ _ (by simp)
  obtain ⟨wv,hwv⟩:∃ wv,(w.alloc (.cells vh 39)).alloc (.cells vs 39) = wv:=⟨_,rfl⟩
  rw [hwv] at hB0 hR7 hR9
  have HROOT:Hid (Calls Tryz.prog 50 #[.int .u64 ix,.int .u64 sz,.agg vh,.slice A m c] wv fun e w' => e = .returned (.tuple #[.agg vr,.nilIface]) ∧ Below wv.heap.size wv w'):=Lib.hid (by
    have:=vroot_ok a B ix sz h ps r A m c wv (hE.step hB0) hh (hp.below hB0) h1 h2 hs hm9
    rw [evh,evr] at this
    exact this.mono (fun _ _ q => ⟨q.1,q.2.2⟩))
  have hq':∀ w,(Op.equalIn 10000 39 (.agg vr) (.agg vs)).run Tryz.prog w = .ok false w:=fun w => by rw [eq_hash r r2 hr hr2 vr vs evr evs w];simp [hne]
  have HWV:=Lib.hid hwv
  have HB:=Lib.hid hB0
  have R7:=Lib.hid hR7
  have R9:=Lib.hid hR9
  have HE:=Lib.hid hE
  rw [evh,evs]
  clear hE hp hs evh evr evs hwv hB0 hR7 hR9 hh hr hr2 hne
  unfold errV
  go_enter Tryz.func21,Tryz.ntmps21
  go_upto_region 1 with fail
  rw [HWV.out]
  go_wp2_with (refine wpList_load_row rfl 39 _ rfl w.heap.size rfl 39 vh (0,0) _ R7.out Tryz.underlying39 rfl Ivh.out ?_)
  refine HROOT.out.mono ?_
  rintro ev w1 ⟨rfl,b1⟩
  have R9b:Hid (w1.heap[w.heap.size+1]? = some (.cells vs 39 (0,0))):=Lib.hid ((b1.block _ (Array.getElem?_eq_some_iff.1 R9.out).1).trans R9.out)
  go_upto_region 2 with (refine wpList_store_row_any rfl 39 _ _ rfl w1.heap.size vr rfl rfl 39 _ (heap_at _ _ _ rfl) Ivr.out (by rw [Zvr.out];rfl) Ovr.out ?_;intro w2 hbN hgN hsN;have b2:Below w1.heap.size w1 w2:=((Below.refl _ w1).alloc (Nat.le_refl _) _).trans (hbN.to_below (by simp) (fun k hk q => by omega));have R11:=Lib.hid hgN;clear hbN hgN hsN)
  have R9c:Hid (w2.heap[w.heap.size+1]? = some (.cells vs 39 (0,0))):=Lib.hid ((b2.block _ (Array.getElem?_eq_some_iff.1 R9b.out).1).trans R9b.out)
  have HF:Hid (Below w.heap.size w w2):=Lib.hid (HB.out.trans ((b1.trans (b2.mono b1.size)).mono HB.out.size))
  have he10:=(HE.out.step HF.out).laid.e10
  have hg10:2 < w2.heap.size:=block_of_cell he10
  clear b1 b2
  go_wp2_with (first | (refine wpList_load_row rfl 39 _ rfl w1.heap.size rfl 39 vr (0,0) _ R11.out Tryz.underlying39 rfl Ivr.out ?_) | (refine wpList_load_row rfl 39 _ rfl (w.heap.size+1) rfl 39 vs (0,0) _ R9c.out Tryz.underlying39 rfl Ivs.out ?_))
  go_ret
  exact ⟨rfl,HF.out⟩

end Go.Proofs.YtpdkpdpkggepcaaGreatDoor

/- What a path that verifies says, where its leaf is another than the log's. Plain. -/
namespace Go.Proofs.YtpdkpdpkggepcaaGreatDoor
open Go.ChangeShapes Go.WideShapes Go.ChangeAt Go.RowKit
set_option linter.unusedVariables false
theorem fSays_said {said:Int × Int → Option (List UInt8)} {lv:Int → List UInt8} {f:Nat} {b e:Int} {h:List UInt8} (q:said (b,e) = some h):fSays said lv f b e = h:=by
  cases f <;> (rw [fSays,q])
theorem fBare_said {said:Int × Int → Option (List UInt8)} {f:Nat} {b e i:Int} {h:List UInt8} (q:said (b,e) = some h):¬ fBare said f b e i:=by
  cases f <;> (rw [fBare,q];simp)
theorem path_fold (said : Int × Int → Option (List UInt8)) (lv : Int → List UInt8) : ∀ (f : Nat) (ix b e : Int) (P : List (List UInt8)), b ≤ ix → ix < e → e - b ≤ pow2 f → f ≤ 64 → P.length = (pathL f ix b e).length →
    (∀ p:Int × Int,b ≤ p.1 → p.1 < p.2 → p.2 ≤ e → said p = saidL ((pathL f ix b e).zip P) p) →
    bot nodeH (f+1) (ix - b).toNat (e - b).toNat (lv ix) P = some (fSays said lv f b e) ∧ ∀ i,fBare said f b e i ↔ i = ix
  | 0,ix,b,e,P,h1,h2,hp,h64,hl,hs => by
    rw [pow2_zero] at hp
    obtain rfl:ix = b:=by omega
    have hsb:=hs (ix,e) (by simp) (by simpa using h2) (by simp)
    obtain rfl:P = []:=by simpa [pathL] using hl
    have hq:said (ix,e) = none:=by rw [hsb];rfl
    rw [bot_one nodeH (by omega),fSays,hq]
    refine ⟨rfl,fun i => ?_⟩
    rw [fBare,hq];simp
  | f+1,ix,b,e,P,h1,h2,hp,h64,hl,hs => by
    have hsb:=hs (b,e) (by simp) (by simp;omega) (by simp)
    by_cases h3:e - b < 2
    · obtain rfl:ix = b:=by omega
      have e0:pathL (f+1) ix ix e = []:=by rw [pathL,if_pos h3]
      rw [e0] at hl hsb
      obtain rfl:P = []:=by simpa using hl
      have hq:said (ix,e) = none:=by rw [hsb];rfl
      rw [bot_one nodeH (by omega),fSays,hq]
      refine ⟨by simp only [if_pos h3],fun i => ?_⟩
      rw [fBare,hq,if_pos h3];simp
    · have hb:=blwI_bd (n:=e - b) (by omega)
      have hk:=blwI_le_pow (n:=e - b) (f:=f) (by omega) hp
      have hps:=pow2_succ f
      have hp64:=pow2_le (show f+1 ≤ 64 by omega)
      have hn:=pow2_nat hp (by omega)
      have e1:blw (e - b).toNat = (blwI (e - b)).toNat:=(blwI_toNat (by omega)).symm
      obtain ⟨k,hk'⟩:∃ k,blwI (e - b) = k:=⟨_,rfl⟩
      rw [hk'] at hb hk e1
      have hnk:k.toNat ≤ 2 ^ f:=pow2_nat (by omega) (by omega)
      by_cases hx:ix < b+k
      · have ep:pathL (f+1) ix b e = pathL f ix b (b+k) ++ [(b+k,e)]:=by rw [pathL,if_neg h3,hk',if_pos hx]
        rw [ep,List.length_append] at hl
        obtain ⟨P',q,rfl,hl'⟩:=snoc_of (n:=(pathL f ix b (b+k)).length) hl
        have hz:(pathL (f+1) ix b e).zip (P' ++ [q]) = (pathL f ix b (b+k)).zip P' ++ [((b+k,e),q)]:=by
          rw [ep,List.zip_append hl'.symm];rfl
        have inA:∀ s ∈ pathL f ix b (b+k),b ≤ s.1 ∧ s.1 < s.2 ∧ s.2 ≤ b+k:=fun s h => by
          have:=pathL_in f ix b (b+k) s h1 hx (by omega) h;omega
        have hq:said (b,e) = none:=by
          rw [hsb,hz,saidL_snoc,if_neg (by simp;omega)]
          exact zip_ne (fun s h e' => by have:=inA s h;rw [e'] at this;simp at this;omega)
        have hr:said (b+k,e) = some q:=by
          rw [hs (b+k,e) (by simp;omega) (by simp;omega) (by simp),hz,saidL_snoc,if_pos rfl]
        obtain ⟨ih,ib⟩:=path_fold said lv f ix b (b+k) P' h1 hx (by omega) (by omega) hl' (fun p p1 p2 p3 => by
          rw [hs p p1 p2 (by omega),hz,saidL_snoc,if_neg (fun e' => by rw [← e'] at p3;simp at p3;omega)])
        rw [show b+k - b = k by omega] at ih
        refine ⟨?_,fun i => ?_⟩
        · rw [fSays,hq]
          simp only [if_neg h3,hk']
          rw [fSays_said (f:=f) (lv:=lv) hr]
          refine bot_left nodeH (f+1) (ix - b).toNat (e - b).toNat (lv ix) _ _ _ (by omega) hn (by rw [e1];omega) ?_
          rw [e1,← bot_fuel nodeH f (f+1) _ _ _ _ (by omega) (by have:=Nat.pow_succ 2 f;omega)];exact ih
        · rw [fBare,hq,if_neg h3,hk',ib i]
          have:=fBare_said (f:=f) (i:=i) hr
          simp [this]
      · have ep:pathL (f+1) ix b e = pathL f ix (b+k) e ++ [(b,b+k)]:=by rw [pathL,if_neg h3,hk',if_neg hx]
        rw [ep,List.length_append] at hl
        obtain ⟨P',q,rfl,hl'⟩:=snoc_of (n:=(pathL f ix (b+k) e).length) hl
        have hz:(pathL (f+1) ix b e).zip (P' ++ [q]) = (pathL f ix (b+k) e).zip P' ++ [((b,b+k),q)]:=by
          rw [ep,List.zip_append hl'.symm];rfl
        have inA:∀ s ∈ pathL f ix (b+k) e,b+k ≤ s.1 ∧ s.1 < s.2 ∧ s.2 ≤ e:=fun s h => by
          have:=pathL_in f ix (b+k) e s (by omega) h2 (by omega) h;omega
        have hq:said (b,e) = none:=by
          rw [hsb,hz,saidL_snoc,if_neg (by simp;omega)]
          exact zip_ne (fun s h e' => by have:=inA s h;rw [e'] at this;simp at this;omega)
        have hr:said (b,b+k) = some q:=by
          rw [hs (b,b+k) (by simp) (by simp;omega) (by simp;omega),hz,saidL_snoc,if_pos rfl]
        obtain ⟨ih,ib⟩:=path_fold said lv f ix (b+k) e P' (by omega) h2 (by omega) (by omega) hl' (fun p p1 p2 p3 => by
          rw [hs p (by omega) p2 p3,hz,saidL_snoc,if_neg (fun e' => by rw [← e'] at p1;simp at p1;omega)])
        rw [show e - (b+k) = e - b - k by omega,show ix - (b+k) = ix - b - k by omega] at ih
        refine ⟨?_,fun i => ?_⟩
        · rw [fSays,hq]
          simp only [if_neg h3,hk']
          rw [fSays_said (f:=f) (lv:=lv) hr]
          refine bot_right nodeH (f+1) (ix - b).toNat (e - b).toNat (lv ix) _ _ _ (by omega) hn (by rw [e1];omega) (by omega) ?_
          have hnk2:(e - b - k).toNat ≤ 2 ^ f:=pow2_nat (by omega) (by omega)
          rw [e1,show (e - b).toNat - k.toNat = (e - b - k).toNat by omega,show (ix - b).toNat - k.toNat = (ix - b - k).toNat by omega,← bot_fuel nodeH f (f+1) _ _ _ _ hnk2 (by have:=Nat.pow_succ 2 f;omega)];exact ih
        · rw [fBare,hq,if_neg h3,hk',ib i]
          have:=fBare_said (f:=f) (i:=i) hr
          simp [this]
theorem bot_len {α β:Type} (n1:α → α → α) (n2:β → β → β):∀ (f n size:Nat) (h:α) (ps:List α) (r:α) (h':β) (ps':List β) (r':β),bot n1 f n size h ps = some r → bot n2 f n size h' ps' = some r' → ps.length = ps'.length
  | 0,n,size,h,ps,r,h',ps',r',q1,q2 => by
    rw [bot] at q1 q2
    split at q1
    · split at q2
      · rename_i e1 e2;rw [e1,e2];rfl
      · cases q2
    · cases q1
  | f+1,n,size,h,ps,r,h',ps',r',q1,q2 => by
    by_cases h1:size ≤ 1
    · rw [bot_one _ h1] at q1 q2
      cases ps with
      | cons a b => cases q1
      | nil => cases ps' with
        | cons a b => cases q2
        | nil => rfl
    · by_cases he:n % 2 = 0 ∧ n = size - 1
      · rw [bot_last _ (by omega) he] at q1 q2
        exact bot_len n1 n2 f _ _ _ _ _ _ _ _ q1 q2
      · cases ps with
        | nil => rw [bot_nil _ (by omega) he] at q1;cases q1
        | cons p ps =>
          cases ps' with
          | nil => rw [bot_nil _ (by omega) he] at q2;cases q2
          | cons p' ps' =>
            by_cases ho:n % 2 = 1
            · rw [bot_odd _ (by omega) ho] at q1 q2
              have:=bot_len n1 n2 f _ _ _ _ _ _ _ _ q1 q2
              simp [this]
            · rw [bot_even _ (by omega) (by omega) (by omega)] at q1 q2
              have:=bot_len n1 n2 f _ _ _ _ _ _ _ _ q1 q2
              simp [this]
/-- what a path says that the root is -/
def pathR (ix sz:Nat) (lf:List UInt8) (P:List (List UInt8)):List UInt8:=fSays (saidL ((pathL 64 ix 0 sz).zip P)) (fun _ => lf) 64 0 sz
theorem path_bot {ix sz:Nat} (lf:List UInt8) {P:List (List UInt8)} (h1:ix < sz) (h2:sz ≤ 9223372036854775808) (hl:P.length = (pathL 64 ix 0 sz).length):bot nodeH 65 ix (sz - 1+1) lf P = some (pathR ix sz lf P):=by
  have:=(path_fold (saidL ((pathL 64 ix 0 sz).zip P)) (fun _ => lf) 64 ix 0 sz P (by omega) (by omega) (by rw [pow2_64];omega) (by omega) hl (fun p _ _ _ => rfl)).1
  rw [show ((ix:Int) - 0).toNat = ix by omega,show ((sz:Int) - 0).toNat = sz - 1+1 by omega] at this
  exact this
theorem path_says {ix sz:Nat} (lf:List UInt8) {P:List (List UInt8)} (h1:ix < sz) (h2:sz ≤ 9223372036854775808) (hl:P.length = (pathL 64 ix 0 sz).length):Says nodeH ix (sz - 1) lf P (pathR ix sz lf P) :=
  ⟨64,by omega,path_bot lf h1 h2 hl⟩
theorem path_not {ix sz:Nat} (lf:List UInt8) {P:List (List UInt8)} (h1:ix < sz) (h2:sz ≤ 9223372036854775808) (hl:P.length ≠ (pathL 64 ix 0 sz).length):SaysN nodeH ix (sz - 1) lf P:=by
  refine ⟨64,by omega,?_⟩
  cases q:bot nodeH 65 ix (sz - 1+1) lf P with
  | none => rfl
  | some r =>
    have:=path_bot (P:=List.replicate (pathL 64 ix 0 sz).length zeroH) lf h1 h2 (by simp)
    have:=bot_len nodeH nodeH 65 ix (sz - 1+1) lf P r lf _ _ q this
    rw [List.length_replicate] at this
    exact absurd this hl
theorem pathR_len {ix sz:Nat} {lf:List UInt8} {P:List (List UInt8)} (h32:H32 P) (hl:lf.length = 32):(pathR ix sz lf P).length = 32:=fSays_len _ _ (zip_32 h32) (fun _ => hl) _ _ _
/-- does the path lead to the log's root? -/
def verP (ix sz:Nat) (L:List ByteArray) (d:ByteArray) (P:List (List UInt8)):Prop:=P.length = (pathL 64 ix 0 sz).length ∧ pathR ix sz (leafH d) P = treeB L 0 sz
end Go.Proofs.YtpdkpdpkggepcaaGreatDoor

/- forge.Inclusion, whatever is handed in. Condition: the package-level variables read as listed. -/
namespace Go.Proofs.YtpdkpdpkggepcaaGreatDoor
open Go.ChangeShapes Go.WideShapes Go.ChangeAt Go.RowKit
set_option linter.unusedVariables false
theorem vincl_fail (a : Nat → Addr) (B ix sz : Nat) (L : List ByteArray) (d : ByteArray) (P : List (List UInt8)) (A : Option Addr) (m c : Nat) (w : World) (hE : Env B a w) (hs : sz ≤ 9223372036854775808) (hp : HIn w A m c P) (hm : m ≤ 1000000000) (hvv : ¬ (ix < sz ∧ verP ix sz L d P)) :
    Calls Tryz.prog 21 #[.int .u64 ix,.int .u64 sz,hv (leafH d),.slice A m c,hv (treeB L 0 sz)] w fun ev w' => ev = .returned (errV a (if sz ≤ ix then 5 else 10)) ∧ Below w.heap.size w w':=by
  by_cases h1:sz ≤ ix
  · rw [if_pos h1]
    exact vincl_off a B ix sz _ _ A m c w hE (leafH_length _) (treeB_len _ _ _) h1 hs
  · rw [if_neg h1]
    by_cases hl:P.length = (pathL 64 ix 0 sz).length
    · exact vincl_bad a B ix sz _ P (pathR ix sz (leafH d) P) _ A m c w hE (leafH_length _) (pathR_len hp.1 (leafH_length _)) (treeB_len _ _ _) (fun e => hvv ⟨by omega,hl,e⟩) hp (by omega) hs (path_says _ (by omega) hs hl) hm
    · exact vincl_none a B ix sz _ _ A m c P w hE (leafH_length _) (treeB_len _ _ _) hp (by omega) hs (path_not _ (by omega) hs hl) hm

set_option maxRecDepth 100000 in
set_option maxHeartbeats 8000000 in
theorem fincl_bad (a : Nat → Addr) (B base b : Nat) (v : Value) (L : List ByteArray) (ix sz : Nat) (d : ByteArray) (P : List (List UInt8)) (A : Option Addr) (m c : Nat) (w : World) (hE : Env B a w) (h : LogAt base b v L w) (hs : sz ≤ L.length) (hd : d.size ≤ 100000000) (hp : HIn w A m c P) (hm9 : m ≤ 1000000000) (hv : ¬ (ix < sz ∧ verP ix sz L d P)) :
    Calls Tryz.prog 9 #[.pointer (some ⟨b,0,none⟩),.int .u64 ix,.int .u64 sz,.string d,.slice A m c] w fun ev w' => ev = .returned (.tuple #[.string ⟨#[]⟩,.string ⟨#[]⟩,.bool false]) ∧ Below w.heap.size w w':=by
  have hL:=h.1.1
  obtain ⟨vr,evr,Hvr,Zvr,Ivr,Ovr⟩:=row_of (treeB L 0 sz) (treeB_len _ _ _)
  obtain ⟨vl,evl,Hvl,Zvl,Ivl,Ovl⟩:=row_of (leafH d) (leafH_length _)
  have HRT:Hid (Calls Tryz.prog 20 #[.pointer (some ⟨b,0,none⟩),.int .u64 sz] w fun ev w' => ev = .returned (.tuple #[.agg vr,.nilIface]) ∧ Below w.heap.size w w'):=Lib.hid (by
    have:=lroot_ok a B base b v L sz w hE h (by omega) (by omega)
    rw [evr] at this;exact this)
  have HLF:Hid (∀ w,Env B a w → Calls Tryz.prog 22 #[.string d] w fun ev w' => ev = .returned (.agg vl) ∧ Below w.heap.size w w'):=Lib.hid (fun w e => by
    have:=hleaf_any d w (by omega) e.tab
    rw [evl] at this;exact this)
  obtain ⟨qe,HVE⟩:∃ qe,errV a (if sz ≤ ix then 5 else 10) = .iface 203 (.pointer (some qe)):=⟨_,rfl⟩
  have HIN:Hid (∀ w,Env B a w → HIn w A m c P → Calls Tryz.prog 21 #[.int .u64 ix,.int .u64 sz,.agg vl,.slice A m c,.agg vr] w fun ev w' => ev = .returned (.iface 203 (.pointer (some qe))) ∧ Below w.heap.size w w'):=Lib.hid (fun w e q => by
    have:=vincl_fail a B ix sz L d P A m c w e (by omega) q hm9 hv
    rw [evl,evr,HVE] at this;exact this)
  have HE:=Lib.hid hE
  have HL:=Lib.hid h
  have HP:=Lib.hid hp
  clear hE h hp evr evl hs hv hL hd hm9 HVE
  go_enter Tryz.func9,Tryz.ntmps9
  go_wp2_with fail
  refine HRT.out.mono ?_
  rintro ev w1 ⟨rfl,b1⟩
  go_upto_region 2 with (refine wpList_store_row_any rfl 39 _ _ rfl w1.heap.size vr rfl rfl 39 _ (heap_at _ _ _ rfl) Ivr.out (by rw [Zvr.out];rfl) Ovr.out ?_;intro w2 hbN hgN hsN;have b2:Below w1.heap.size w1 w2:=((Below.refl _ w1).alloc (Nat.le_refl _) _).trans (hbN.to_below (by simp) (fun k hk q => by omega));have Rw2:=Lib.hid hgN;clear hbN hgN hsN)
  have HB2:Hid (Below w.heap.size w w2):=Lib.hid (b1.trans (b2.mono b1.size))
  have HE2:=Lib.hid (HE.out.step HB2.out)
  have HP2:=Lib.hid (HP.out.below HB2.out)
  clear b1 b2
  refine wp_region_held_drew (S:=Gr w2) (by kernel_rfl) (Gr.refl w2).drew (fun hHeld => ?_)
  refine tk (i:=0) (v:=?v70) rfl ?y70 ?r70
  case y70 => (intro w hSw;(try dsimp only at hSw);go_simp;(try with_reducible rfl))
  try simp only [pu]
  refine tk (i:=1) (v:=?v71) rfl ?y71 ?r71
  case y71 => (intro w hSw;(try dsimp only at hSw);go_simp;(try with_reducible rfl))
  try simp only [pu]
  refine tk (i:=2) (v:=?v72) rfl ?y72 ?r72
  case y72 => (intro w hSw;(try dsimp only at hSw);go_simp;(try with_reducible rfl))
  try simp only [pu]
  refine tk (i:=3) (v:=?v73) rfl ?y73 ?r73
  case y73 => (intro w hSw;(try dsimp only at hSw);go_simp;(try with_reducible rfl))
  try simp only [pu]
  refine tk (i:=4) (v:=?v74) rfl ?y74 ?r74
  case y74 => (intro w hSw;(try dsimp only at hSw);go_simp;(try with_reducible rfl))
  try simp only [pu]
  refine tk (i:=5) (v:=?v75) rfl ?y75 ?r75
  case y75 => (intro w hSw;(try dsimp only at hSw);go_simp;(try with_reducible rfl))
  try simp only [pu]
  refine tk (i:=7) (v:=?v76) rfl ?y76 ?r76
  case y76 => (intro w hSw;(try dsimp only at hSw);go_simp;(try with_reducible rfl))
  try simp only [pu]
  refine tw (i:=8) rfl (yieldsIf_load_row (by rfl) 39 _ (by rfl) w1.heap.size (by rfl) 39 vr (0,0) _ (fun w h => (Below.block h _ (Array.getElem?_eq_some_iff.1 Rw2.out).1).trans Rw2.out) Tryz.underlying39 rfl Ivr.out) ?_
  try simp only [pu]
  refine wpAnyH_ready (rs:=[6]) (by kernel_rfl) (by simp) ?_
  refine AllReadyH.cons (i:=6) rfl (fun K2 hK2 => ?_) AllReadyH.nil
  go_simp
  go_at_call 22
  refine (HLF.out w2.drew (HE2.out.step (show Gr w2 w2.drew from (by repeat (first | exact Gr.refl _ | (refine Gr.step ?_ (by assumption)) | (refine Gr.alloc ?_ _) | (refine Gr.drew ?_)))))).mono ?_
  rintro ev w107 ⟨rfl,b107⟩
  try go_wp2_with fail
  refine hK2.out _ _ (show Gr w2 _ from (by repeat (first | exact Gr.refl _ | (refine Gr.step ?_ (by assumption)) | (refine Gr.alloc ?_ _) | (refine Gr.drew ?_)))) (fun hHeld2 => ?_)
  clear hK2 K2
  try simp only [pu]
  refine wpAnyH_ready (rs:=[9]) (by kernel_rfl) (by simp) ?_
  refine AllReadyH.cons (i:=9) rfl (fun K2 hK2 => ?_) AllReadyH.nil
  go_simp
  go_at_call 21
  refine (HIN.out w107 (HE2.out.step (show Gr w2 w107 from (by repeat (first | exact Gr.refl _ | (refine Gr.step ?_ (by assumption)) | (refine Gr.alloc ?_ _) | (refine Gr.drew ?_))))) (HP2.out.below (show Gr w2 w107 from (by repeat (first | exact Gr.refl _ | (refine Gr.step ?_ (by assumption)) | (refine Gr.alloc ?_ _) | (refine Gr.drew ?_)))))).mono ?_
  rintro ev w108 ⟨rfl,b108⟩
  try go_wp2_with fail
  refine hK2.out _ _ (show Gr w2 _ from (by repeat (first | exact Gr.refl _ | (refine Gr.step ?_ (by assumption)) | (refine Gr.alloc ?_ _) | (refine Gr.drew ?_)))) (fun hHeld2 => ?_)
  clear hK2 K2
  try simp only [pu]
  refine tk (i:=10) (v:=?v78) rfl ?y78 ?r78
  case y78 => (intro w hSw;(try dsimp only at hSw);go_simp;(try with_reducible rfl))
  try simp only [pu]
  refine tk (i:=11) (v:=?v79) rfl ?y79 ?r79
  case y79 => (intro w hSw;(try dsimp only at hSw);go_simp;(try with_reducible rfl))
  try simp only [pu]
  refine wpAnyH_done (by kernel_rfl) ?_ _
  obtain ⟨w5,hw5⟩:∃ z,w108 = z:=⟨_,rfl⟩
  have b5:Below w2.heap.size w2 w5:=by rw [← hw5];exact (show Gr w2 w108 from (by repeat (first | exact Gr.refl _ | (refine Gr.step ?_ (by assumption)) | (refine Gr.alloc ?_ _) | (refine Gr.drew ?_))))
  rw [hw5]
  have HB4:Hid (Below w.heap.size w w5):=Lib.hid (HB2.out.trans (b5.mono HB2.out.size))
  clear b5 hw5 hHeld hHeld2
  go_wp2
  go_ret3
  exact ⟨rfl,HB4.out⟩

set_option maxRecDepth 100000 in
set_option maxHeartbeats 8000000 in
theorem fincl_same (a : Nat → Addr) (B base b : Nat) (v : Value) (L : List ByteArray) (ix sz : Nat) (d : ByteArray) (P : List (List UInt8)) (A : Option Addr) (m c : Nat) (w : World) (hE : Env B a w) (h : LogAt base b v L w) (hs : sz ≤ L.length) (hd : d.size ≤ 100000000) (hp : HIn w A m c P) (hm9 : m ≤ 1000000000) (hx : ix < sz) (hv : verP ix sz L d P) (hsm : L[ix]? = some d) :
    Calls Tryz.prog 9 #[.pointer (some ⟨b,0,none⟩),.int .u64 ix,.int .u64 sz,.string d,.slice A m c] w fun ev w' => (∃ s,ev = .returned (.tuple #[.string s,.string s,.bool false]) ∧ bOf s = soB L sz) ∧ Below w.heap.size w w':=by
  have hL:=h.1.1
  obtain ⟨vr,evr,Hvr,Zvr,Ivr,Ovr⟩:=row_of (treeB L 0 sz) (treeB_len _ _ _)
  obtain ⟨vl,evl,Hvl,Zvl,Ivl,Ovl⟩:=row_of (leafH d) (leafH_length _)
  have HRT:Hid (Calls Tryz.prog 20 #[.pointer (some ⟨b,0,none⟩),.int .u64 sz] w fun ev w' => ev = .returned (.tuple #[.agg vr,.nilIface]) ∧ Below w.heap.size w w'):=Lib.hid (by
    have:=lroot_ok a B base b v L sz w hE h (by omega) (by omega)
    rw [evr] at this;exact this)
  have HLF:Hid (∀ w,Env B a w → Calls Tryz.prog 22 #[.string d] w fun ev w' => ev = .returned (.agg vl) ∧ Below w.heap.size w w'):=Lib.hid (fun w e => by
    have:=hleaf_any d w (by omega) e.tab
    rw [evl] at this;exact this)
  have HIN:Hid (∀ w,Env B a w → HIn w A m c P → Calls Tryz.prog 21 #[.int .u64 ix,.int .u64 sz,.agg vl,.slice A m c,.agg vr] w fun ev w' => ev = .returned .nilIface ∧ Below w.heap.size w w'):=Lib.hid (fun w e q => by
    have:=vincl_ok a B ix sz (leafH d) P (pathR ix sz (leafH d) P) A m c w e (leafH_length _) (pathR_len q.1 (leafH_length _)) q hx (by omega) (path_says _ hx (by omega) hv.1) hm9
    rw [hv.2,evl,evr] at this;exact this)
  have HN:=Lib.hid (show 0 < sz ∧ sz ≤ L.length ∧ ix < sz by omega)
  have HY:=Lib.hid hsm
  have HE:=Lib.hid hE
  have HL:=Lib.hid h
  have HP:=Lib.hid hp
  clear hE h hp evr evl hs hv hL hd hm9 hx hsm
  go_enter Tryz.func9,Tryz.ntmps9
  go_wp2_with fail
  refine HRT.out.mono ?_
  rintro ev w1 ⟨rfl,b1⟩
  go_upto_region 2 with (refine wpList_store_row_any rfl 39 _ _ rfl w1.heap.size vr rfl rfl 39 _ (heap_at _ _ _ rfl) Ivr.out (by rw [Zvr.out];rfl) Ovr.out ?_;intro w2 hbN hgN hsN;have b2:Below w1.heap.size w1 w2:=((Below.refl _ w1).alloc (Nat.le_refl _) _).trans (hbN.to_below (by simp) (fun k hk q => by omega));have Rw2:=Lib.hid hgN;clear hbN hgN hsN)
  have HB2:Hid (Below w.heap.size w w2):=Lib.hid (b1.trans (b2.mono b1.size))
  have HE2:=Lib.hid (HE.out.step HB2.out)
  have HP2:=Lib.hid (HP.out.below HB2.out)
  clear b1 b2
  refine wp_region_held_drew (S:=Gr w2) (by kernel_rfl) (Gr.refl w2).drew (fun hHeld => ?_)
  refine tk (i:=0) (v:=?v80) rfl ?y80 ?r80
  case y80 => (intro w hSw;(try dsimp only at hSw);go_simp;(try with_reducible rfl))
  try simp only [pu]
  refine tk (i:=1) (v:=?v81) rfl ?y81 ?r81
  case y81 => (intro w hSw;(try dsimp only at hSw);go_simp;(try with_reducible rfl))
  try simp only [pu]
  refine tk (i:=2) (v:=?v82) rfl ?y82 ?r82
  case y82 => (intro w hSw;(try dsimp only at hSw);go_simp;(try with_reducible rfl))
  try simp only [pu]
  refine tk (i:=3) (v:=?v83) rfl ?y83 ?r83
  case y83 => (intro w hSw;(try dsimp only at hSw);go_simp;(try with_reducible rfl))
  try simp only [pu]
  refine tk (i:=4) (v:=?v84) rfl ?y84 ?r84
  case y84 => (intro w hSw;(try dsimp only at hSw);go_simp;(try with_reducible rfl))
  try simp only [pu]
  refine tk (i:=5) (v:=?v85) rfl ?y85 ?r85
  case y85 => (intro w hSw;(try dsimp only at hSw);go_simp;(try with_reducible rfl))
  try simp only [pu]
  refine tk (i:=7) (v:=?v86) rfl ?y86 ?r86
  case y86 => (intro w hSw;(try dsimp only at hSw);go_simp;(try with_reducible rfl))
  try simp only [pu]
  refine tw (i:=8) rfl (yieldsIf_load_row (by rfl) 39 _ (by rfl) w1.heap.size (by rfl) 39 vr (0,0) _ (fun w h => (Below.block h _ (Array.getElem?_eq_some_iff.1 Rw2.out).1).trans Rw2.out) Tryz.underlying39 rfl Ivr.out) ?_
  try simp only [pu]
  refine wpAnyH_ready (rs:=[6]) (by kernel_rfl) (by simp) ?_
  refine AllReadyH.cons (i:=6) rfl (fun K2 hK2 => ?_) AllReadyH.nil
  go_simp
  go_at_call 22
  refine (HLF.out w2.drew (HE2.out.step (show Gr w2 w2.drew from (by repeat (first | exact Gr.refl _ | (refine Gr.step ?_ (by assumption)) | (refine Gr.alloc ?_ _) | (refine Gr.drew ?_)))))).mono ?_
  rintro ev w109 ⟨rfl,b109⟩
  try go_wp2_with fail
  refine hK2.out _ _ (show Gr w2 _ from (by repeat (first | exact Gr.refl _ | (refine Gr.step ?_ (by assumption)) | (refine Gr.alloc ?_ _) | (refine Gr.drew ?_)))) (fun hHeld2 => ?_)
  clear hK2 K2
  try simp only [pu]
  refine wpAnyH_ready (rs:=[9]) (by kernel_rfl) (by simp) ?_
  refine AllReadyH.cons (i:=9) rfl (fun K2 hK2 => ?_) AllReadyH.nil
  go_simp
  go_at_call 21
  refine (HIN.out w109 (HE2.out.step (show Gr w2 w109 from (by repeat (first | exact Gr.refl _ | (refine Gr.step ?_ (by assumption)) | (refine Gr.alloc ?_ _) | (refine Gr.drew ?_))))) (HP2.out.below (show Gr w2 w109 from (by repeat (first | exact Gr.refl _ | (refine Gr.step ?_ (by assumption)) | (refine Gr.alloc ?_ _) | (refine Gr.drew ?_)))))).mono ?_
  rintro ev w110 ⟨rfl,b110⟩
  try go_wp2_with fail
  refine hK2.out _ _ (show Gr w2 _ from (by repeat (first | exact Gr.refl _ | (refine Gr.step ?_ (by assumption)) | (refine Gr.alloc ?_ _) | (refine Gr.drew ?_)))) (fun hHeld2 => ?_)
  clear hK2 K2
  try simp only [pu]
  refine tk (i:=10) (v:=?v88) rfl ?y88 ?r88
  case y88 => (intro w hSw;(try dsimp only at hSw);go_simp;(try with_reducible rfl))
  try simp only [pu]
  refine tk (i:=11) (v:=?v89) rfl ?y89 ?r89
  case y89 => (intro w hSw;(try dsimp only at hSw);go_simp;(try with_reducible rfl))
  try simp only [pu]
  refine wpAnyH_done (by kernel_rfl) ?_ _
  obtain ⟨w5,hw5⟩:∃ z,w110 = z:=⟨_,rfl⟩
  have b5:Below w2.heap.size w2 w5:=by rw [← hw5];exact (show Gr w2 w110 from (by repeat (first | exact Gr.refl _ | (refine Gr.step ?_ (by assumption)) | (refine Gr.alloc ?_ _) | (refine Gr.drew ?_))))
  rw [hw5]
  have HB4:Hid (Below w.heap.size w w5):=Lib.hid (HB2.out.trans (b5.mono HB2.out.size))
  clear b5 hw5 hHeld hHeld2
  go_wp2_with fail
  refine (lleaf_ok base b v L w5 (HL.out.below HB4.out) ix d HY.out).mono ?_
  rintro ev w' ⟨rfl,rfl⟩
  have hdd:(d == d) = true:=(Go.MapKept.bytes_beq d d).2 rfl
  go_wp2_with fail
  refine (so_any a B base b v L sz w5 (HE.out.step HB4.out) (HL.out.below HB4.out) HN.out.1 HN.out.2.1).mono ?_
  rintro ev w7 ⟨⟨s,rfl,q1⟩,b7⟩
  have HQ:=Lib.hid q1
  clear q1
  go_wp2
  go_ret3
  exact ⟨⟨s,rfl,HQ.out⟩,HB4.out.trans (b7.mono HB4.out.size)⟩

set_option maxRecDepth 100000 in
set_option maxHeartbeats 8000000 in
theorem fincl_part (a : Nat → Addr) (B base b : Nat) (v : Value) (L : List ByteArray) (ix sz : Nat) (d : ByteArray) (P : List (List UInt8)) (A : Option Addr) (m c : Nat) (w : World) (hE : Env B a w) (h : LogAt base b v L w) (hs : sz ≤ L.length) (hd : d.size ≤ 100000000) (hp : HIn w A m c P) (hm9 : m ≤ 1000000000) (hx : ix < sz) (hv : verP ix sz L d P) (hsm : L[ix]? ≠ some d) (hbare : ∀ i, fBare (saidL ((pathL 64 ix 0 sz).zip P)) 64 0 sz i → i = ix) :
    Calls Tryz.prog 9 #[.pointer (some ⟨b,0,none⟩),.int .u64 ix,.int .u64 sz,.string d,.slice A m c] w fun ev w' => PartPost (fWalk (saidL ((pathL 64 ix 0 sz).zip P)) (claimLeaf [d] ix) L (logText L) (claimText [d] ix) 64 0 sz) ev ∧ Below w.heap.size w w':=by
  have hL:=h.1.1
  obtain ⟨vr,evr,Hvr,Zvr,Ivr,Ovr⟩:=row_of (treeB L 0 sz) (treeB_len _ _ _)
  obtain ⟨vl,evl,Hvl,Zvl,Ivl,Ovl⟩:=row_of (leafH d) (leafH_length _)
  have HRT:Hid (Calls Tryz.prog 20 #[.pointer (some ⟨b,0,none⟩),.int .u64 sz] w fun ev w' => ev = .returned (.tuple #[.agg vr,.nilIface]) ∧ Below w.heap.size w w'):=Lib.hid (by
    have:=lroot_ok a B base b v L sz w hE h (by omega) (by omega)
    rw [evr] at this;exact this)
  have HLF:Hid (∀ w,Env B a w → Calls Tryz.prog 22 #[.string d] w fun ev w' => ev = .returned (.agg vl) ∧ Below w.heap.size w w'):=Lib.hid (fun w e => by
    have:=hleaf_any d w (by omega) e.tab
    rw [evl] at this;exact this)
  have HIN:Hid (∀ w,Env B a w → HIn w A m c P → Calls Tryz.prog 21 #[.int .u64 ix,.int .u64 sz,.agg vl,.slice A m c,.agg vr] w fun ev w' => ev = .returned .nilIface ∧ Below w.heap.size w w'):=Lib.hid (fun w e q => by
    have:=vincl_ok a B ix sz (leafH d) P (pathR ix sz (leafH d) P) A m c w e (leafH_length _) (pathR_len q.1 (leafH_length _)) q hx (by omega) (path_says _ hx (by omega) hv.1) hm9
    rw [hv.2,evl,evr] at this;exact this)
  have HN:=Lib.hid (show 0 < sz ∧ sz ≤ L.length ∧ ix < sz by omega)
  obtain ⟨y,hy⟩:∃ y,L[ix]? = some y:=⟨_,List.getElem?_eq_getElem (by omega)⟩
  have HDY:Hid (y ≠ d):=Lib.hid (fun e => hsm (by rw [hy,e]))
  have HY:=Lib.hid hy
  have HD9:=Lib.hid hd
  obtain ⟨l,hl⟩:∃ l,pathL 64 ix 0 sz = l:=⟨_,rfl⟩
  have hln:l.length = m:=by rw [← hl,← hv.1];exact hp.2.1
  have hPB:∀ p ∈ l,PB p:=fun p hpm => by
    rw [← hl] at hpm
    obtain ⟨q1,q2,q3,_⟩:=pathL_in 64 ix 0 sz p (by omega) (by omega) (by rw [pow2_64];omega) hpm
    exact ⟨by omega,by omega,by omega,by omega⟩
  have HSHB:Hid (∀ w,Calls Tryz.prog 25 #[.int .u64 ix,.int .u64 sz] w (ListPost 84 2 w l.length (spanCells l))):=Lib.hid (fun w => by rw [← hl];exact path_ok ix sz w (by omega) (by omega) (by omega))
  obtain ⟨out,hout⟩:∃ z,(fWalk (saidL ((pathL 64 ix 0 sz).zip P)) (claimLeaf [d] ix) L (logText L) (claimText [d] ix) 64 0 sz) = z:=⟨_,rfl⟩
  rw [hout]
  rw [hl] at hout hbare
  have HLB:Hid (l.length = m ∧ (∀ p ∈ l,PB p) ∧ m ≤ 1000000000 ∧ (∀ i,fBare (saidL (l.zip P)) 64 0 sz i → i = ix) ∧ fWalk (saidL (l.zip P)) (claimLeaf [d] ix) L (logText L) (claimText [d] ix) 64 0 sz = out):=Lib.hid ⟨hln,hPB,hm9,hbare,hout⟩
  clear hy hl hln hPB hout hbare
  have HE:=Lib.hid hE
  have HL:=Lib.hid h
  have HP:=Lib.hid hp
  clear hE h hp evr evl hs hv hL hd hm9 hx hsm
  go_enter Tryz.func9,Tryz.ntmps9
  go_wp2_with fail
  refine HRT.out.mono ?_
  rintro ev w1 ⟨rfl,b1⟩
  go_upto_region 2 with (refine wpList_store_row_any rfl 39 _ _ rfl w1.heap.size vr rfl rfl 39 _ (heap_at _ _ _ rfl) Ivr.out (by rw [Zvr.out];rfl) Ovr.out ?_;intro w2 hbN hgN hsN;have b2:Below w1.heap.size w1 w2:=((Below.refl _ w1).alloc (Nat.le_refl _) _).trans (hbN.to_below (by simp) (fun k hk q => by omega));have Rw2:=Lib.hid hgN;clear hbN hgN hsN)
  have HB2:Hid (Below w.heap.size w w2):=Lib.hid (b1.trans (b2.mono b1.size))
  have HE2:=Lib.hid (HE.out.step HB2.out)
  have HP2:=Lib.hid (HP.out.below HB2.out)
  clear b1 b2
  refine wp_region_held_drew (S:=Gr w2) (by kernel_rfl) (Gr.refl w2).drew (fun hHeld => ?_)
  refine tk (i:=0) (v:=?v90) rfl ?y90 ?r90
  case y90 => (intro w hSw;(try dsimp only at hSw);go_simp;(try with_reducible rfl))
  try simp only [pu]
  refine tk (i:=1) (v:=?v91) rfl ?y91 ?r91
  case y91 => (intro w hSw;(try dsimp only at hSw);go_simp;(try with_reducible rfl))
  try simp only [pu]
  refine tk (i:=2) (v:=?v92) rfl ?y92 ?r92
  case y92 => (intro w hSw;(try dsimp only at hSw);go_simp;(try with_reducible rfl))
  try simp only [pu]
  refine tk (i:=3) (v:=?v93) rfl ?y93 ?r93
  case y93 => (intro w hSw;(try dsimp only at hSw);go_simp;(try with_reducible rfl))
  try simp only [pu]
  refine tk (i:=4) (v:=?v94) rfl ?y94 ?r94
  case y94 => (intro w hSw;(try dsimp only at hSw);go_simp;(try with_reducible rfl))
  try simp only [pu]
  refine tk (i:=5) (v:=?v95) rfl ?y95 ?r95
  case y95 => (intro w hSw;(try dsimp only at hSw);go_simp;(try with_reducible rfl))
  try simp only [pu]
  refine tk (i:=7) (v:=?v96) rfl ?y96 ?r96
  case y96 => (intro w hSw;(try dsimp only at hSw);go_simp;(try with_reducible rfl))
  try simp only [pu]
  refine tw (i:=8) rfl (yieldsIf_load_row (by rfl) 39 _ (by rfl) w1.heap.size (by rfl) 39 vr (0,0) _ (fun w h => (Below.block h _ (Array.getElem?_eq_some_iff.1 Rw2.out).1).trans Rw2.out) Tryz.underlying39 rfl Ivr.out) ?_
  try simp only [pu]
  refine wpAnyH_ready (rs:=[6]) (by kernel_rfl) (by simp) ?_
  refine AllReadyH.cons (i:=6) rfl (fun K2 hK2 => ?_) AllReadyH.nil
  go_simp
  go_at_call 22
  refine (HLF.out w2.drew (HE2.out.step (show Gr w2 w2.drew from (by repeat (first | exact Gr.refl _ | (refine Gr.step ?_ (by assumption)) | (refine Gr.alloc ?_ _) | (refine Gr.drew ?_)))))).mono ?_
  rintro ev w111 ⟨rfl,b111⟩
  try go_wp2_with fail
  refine hK2.out _ _ (show Gr w2 _ from (by repeat (first | exact Gr.refl _ | (refine Gr.step ?_ (by assumption)) | (refine Gr.alloc ?_ _) | (refine Gr.drew ?_)))) (fun hHeld2 => ?_)
  clear hK2 K2
  try simp only [pu]
  refine wpAnyH_ready (rs:=[9]) (by kernel_rfl) (by simp) ?_
  refine AllReadyH.cons (i:=9) rfl (fun K2 hK2 => ?_) AllReadyH.nil
  go_simp
  go_at_call 21
  refine (HIN.out w111 (HE2.out.step (show Gr w2 w111 from (by repeat (first | exact Gr.refl _ | (refine Gr.step ?_ (by assumption)) | (refine Gr.alloc ?_ _) | (refine Gr.drew ?_))))) (HP2.out.below (show Gr w2 w111 from (by repeat (first | exact Gr.refl _ | (refine Gr.step ?_ (by assumption)) | (refine Gr.alloc ?_ _) | (refine Gr.drew ?_)))))).mono ?_
  rintro ev w112 ⟨rfl,b112⟩
  try go_wp2_with fail
  refine hK2.out _ _ (show Gr w2 _ from (by repeat (first | exact Gr.refl _ | (refine Gr.step ?_ (by assumption)) | (refine Gr.alloc ?_ _) | (refine Gr.drew ?_)))) (fun hHeld2 => ?_)
  clear hK2 K2
  try simp only [pu]
  refine tk (i:=10) (v:=?v98) rfl ?y98 ?r98
  case y98 => (intro w hSw;(try dsimp only at hSw);go_simp;(try with_reducible rfl))
  try simp only [pu]
  refine tk (i:=11) (v:=?v99) rfl ?y99 ?r99
  case y99 => (intro w hSw;(try dsimp only at hSw);go_simp;(try with_reducible rfl))
  try simp only [pu]
  refine wpAnyH_done (by kernel_rfl) ?_ _
  obtain ⟨w5,hw5⟩:∃ z,w112 = z:=⟨_,rfl⟩
  have b5:Below w2.heap.size w2 w5:=by rw [← hw5];exact (show Gr w2 w112 from (by repeat (first | exact Gr.refl _ | (refine Gr.step ?_ (by assumption)) | (refine Gr.alloc ?_ _) | (refine Gr.drew ?_))))
  rw [hw5]
  have HB4:Hid (Below w.heap.size w w5):=Lib.hid (HB2.out.trans (b5.mono HB2.out.size))
  clear b5 hw5 hHeld hHeld2
  go_wp2_with fail
  refine (lleaf_ok base b v L w5 (HL.out.below HB4.out) ix y HY.out).mono ?_
  rintro ev w' ⟨rfl,rfl⟩
  have hdy:=HDY.out
  have hq1:¬ y.toList = d.toList:=str_ne hdy
  have hq2:decide (y.toList = d.toList) = false:=by simp [hq1]
  have hq3:(y.toList == d.toList) = false:=by simp [hq1]
  have hq4:decide (y = d) = false:=by simp [hdy]
  have hq5:(y == d) = false:=by cases h:(y == d) with | false => rfl | true => exact absurd ((Go.MapKept.bytes_beq y d).1 h) hdy
  go_wp2_with fail
  refine (HSHB.out w5).mono ?_
  clear hq1 hq2 hq3 hq4 hq5 hdy
  rintro ev w6 ⟨sv,rfl,hown,b6⟩
  have HRD:=Lib.hid (rd_own hown)
  obtain ⟨Asv,csv,rfl,_⟩:=own_shape hown
  have HB5:Hid (Below w.heap.size w w6):=Lib.hid (HB4.out.trans (b6.mono HB4.out.size))
  clear hown b6
  go_wp2_with fail
  refine (laid_any' l P (.slice Asv l.length csv) A m c w6 (by rw [HLB.out.1] at HRD;have:=HRD.out;rw [HLB.out.1];exact this) HLB.out.1 (HP.out.below HB5.out) HLB.out.2.1 (by have:=HLB.out.2.2.1;omega)).mono ?_
  rintro ev w8 ⟨rfl,hsd,b8⟩
  have HSD:=Lib.hid hsd
  obtain ⟨mb,hmb⟩:∃ z,w6.heap.size = z:=⟨_,rfl⟩
  rw [hmb] at HSD ⊢
  have HB8:Hid (Below w.heap.size w w8):=Lib.hid (HB5.out.trans (b8.mono HB5.out.size))
  clear hsd b8 hmb
  obtain ⟨w9,hw9⟩:∃ z,w8.alloc (.cells #[.string d] 9) = z:=⟨_,rfl⟩
  obtain ⟨w10,hw10⟩:∃ z,w9.alloc (.cells #[.pointer (some ⟨b,0,none⟩),.map (some mb),.int .u64 ix,.slice (some ⟨w8.heap.size,0,none⟩) 1 1] 71) = z:=⟨_,rfl⟩
  have RS:Hid (w9.heap[w8.heap.size]? = some (.cells #[.string d] 9 (0,0))):=Lib.hid (by rw [← hw9];exact heap_at _ _ _ rfl)
  have B89:Hid (Below w8.heap.size w8 w9):=Lib.hid (by rw [← hw9];exact (Below.refl _ _).alloc (Nat.le_refl _) _)
  have R10:Hid (w10.heap[w9.heap.size]? = some (.cells #[.pointer (some ⟨b,0,none⟩),.map (some mb),.int .u64 ix,.slice (some ⟨w8.heap.size,0,none⟩) 1 1] 71 (0,0))):=Lib.hid (by rw [← hw10];exact heap_at _ _ _ rfl)
  have B90:Hid (Below w9.heap.size w9 w10):=Lib.hid (by rw [← hw10];exact (Below.refl _ _).alloc (Nat.le_refl _) _)
  have B80:Hid (Below w8.heap.size w8 w10):=Lib.hid (B89.out.trans (B90.out.mono B89.out.size))
  have HB10:Hid (Below w.heap.size w w10):=Lib.hid (HB8.out.trans (B80.out.mono HB8.out.size))
  have RS10:Hid (w10.heap[w8.heap.size]? = some (.cells #[.string d] 9 (0,0))):=Lib.hid ((B90.out.block _ (Array.getElem?_eq_some_iff.1 RS.out).1).trans RS.out)
  have HSI:Hid (SIn w10 (some ⟨w8.heap.size,0,none⟩) 1 1 [d]):=Lib.hid ⟨rfl,Nat.le_refl _,by omega,fun s hs => by (simp at hs;subst hs;have:=HD9.out;omega),by omega,.inr ⟨_,_,rfl,fun j v hj => by
    rw [Nat.zero_add,cell_of_row w10 _ j _ 9 (0,0) RS10.out]
    simpa using hj⟩⟩
  have HPP:Hid (PartPre a B base b v L w9.heap.size mb ix (some ⟨w8.heap.size,0,none⟩) 1 1 [d] (l.zip P) w10):=Lib.hid ⟨HE.out.step HB10.out,HL.out.below HB10.out,R10.out,HSD.out.below B80.out HSD.out.lt,HSI.out,fun s hs => by (simp at hs;subst hs;have:=HD9.out;omega),fun g o q => by (cases q;exact (Array.getElem?_eq_some_iff.1 RS10.out).1)⟩
  obtain ⟨Cb,hCb⟩:∃ z,w9.heap.size = z:=⟨_,rfl⟩
  rw [hCb] at HPP
  have HW9:=Lib.hid hw9
  have HW10:=Lib.hid hw10
  have HPT:Hid (Calls Tryz.prog 27 #[.pointer (some ⟨Cb,0,none⟩),.int .u64 sz] w10 fun ev w' => PartPost out ev ∧ Below w10.heap.size w10 w'):=Lib.hid (by
    have:=part_any a B base b v L Cb mb ix (some ⟨w8.heap.size,0,none⟩) 1 1 [d] (l.zip P) sz w10 HPP.out (by omega) HN.out.1 HN.out.2.1 (fun i hi => by have:=HLB.out.2.2.2.1 i hi;omega)
    rw [HLB.out.2.2.2.2] at this;exact this)
  have HCB:=Lib.hid hCb
  clear hw9 hw10 hCb
  go_wp2_with (refine wpList_build_str_g rfl _ d rfl rfl ?_)
  rw [HW9.out,HW10.out,show w8.heap.size+1 = Cb from by rw [← HCB.out,← HW9.out];simp]
  refine HPT.out.mono ?_
  rintro ev w11 ⟨hpo,b11⟩
  have HB11:Hid (Below w.heap.size w w11):=Lib.hid (HB10.out.trans (b11.mono HB10.out.size))
  clear b11
  cases out with
  | none =>
    obtain rfl:=hpo
    go_wp2
    go_ret3
    exact ⟨rfl,HB11.out⟩
  | some r =>
    obtain ⟨s,t,rfl,hr⟩:=hpo
    have HR:=Lib.hid hr
    clear hr
    go_wp2
    go_ret3
    exact ⟨⟨s,t,rfl,HR.out⟩,HB11.out⟩

end Go.Proofs.YtpdkpdpkggepcaaGreatDoor

