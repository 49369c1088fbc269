import Derived.Test.YtpdkpdpkggepcaaGreatDoorMem
import Derived.Test.YtpdkpdpkggepcaaGreatDoorTexts
import Derived.Deep.Strs
import Derived.Deep.Slices
import Derived.SizedLaws
import Derived.Test.YtpdkpdpkggepcaaGreatDoorHashMem
import Derived.Test.YtpdkpdpkggepcaaGreatDoorForgeApi
import Derived.MapKept
import Derived.Test.YtpdkpdpkggepcaaGreatDoorNaiveHashes
import Derived.BigRegion
import Derived.Deep.DeepCutAuto
import Derived.Test.YtpdkpdpkggepcaaGreatDoorVerifyIncl
import Derived.ChangeKeysEq
/- Arguments as the reader reads them: lists of texts; a stretch. -/
namespace Go.Proofs.YtpdkpdpkggepcaaGreatDoor
open Go.ChangeShapes Go.WideShapes Go.ChangeAt Go.RowKit Go.Deep
set_option maxRecDepth 100000
set_option maxHeartbeats 8000000
open Lib (hid)
set_option linter.unusedVariables false
section
variable {H:Type} {enc:TypeId × Value → H} {W:World} {base:Nat} {spare:Nat → Bool} {held:Bool}
theorem weightsAll_mem {P:Program} {e:TypeId}:∀ {ds:List (DataW H)} {d:DataW H},d ∈ ds → ∀ z ∈ d.weights P e,z ∈ DataW.weightsAll P e ds
 | x :: r,d,hd,z,hz => by
  simp only [DataW.weightsAll,List.mem_append]
  rcases List.mem_cons.1 hd with rfl | hd
  ·exact .inl hz
  ·exact .inr (weightsAll_mem hd z hz)
 | [],d,hd,z,hz => by simp at hd
theorem texts_arg {n:Nat} {cs:Array Value} {x:DataW H × List MemPlace}
 (h:DataW.trod enc Tryz.prog W base spare held n 22 cs.toList = some x) (hw:∀ z ∈ x.1.weights Tryz.prog 22,z ≤ reachBytes) :
 ∃ A n c l,cs = #[.slice A n c] ∧ SIn W A n c l:=by
 have hr:=reachBytes_lt
 have c1:Tryz.prog.cellsOf 9 = 1:=by kernel_rfl
 rcases open_strings Tryz.underlying22 Tryz.underlying9 c1 h with ⟨hcs,hx⟩ | ⟨a,len,cap,ss,hcs,_,hl,hm,hz,hx,hcell,hsz⟩
 ·refine ⟨none,0,0,[],?_,rfl,Nat.le_refl _,by omega,by simp,by omega,.inl rfl⟩
  cases cs;simp at hcs;rw [hcs]
 ·subst hx
  have hb:Tryz.prog.bytesOf 9 = 16:=by kernel_rfl
  have hlen:(ss.take len).length = len:=by rw [List.length_take];split at hz <;> omega
  have h1:∀ z ∈ (DataW.slice (strs (H:=H) (ss.take len)) (strs (ss.drop len))).weights Tryz.prog 22,z ≤ reachBytes:=hw
  simp only [DataW.weights,Tryz.underlying22,List.mem_cons,List.mem_append] at h1
  have h2:=h1 _ (.inl rfl)
  rw [hb] at h2
  have h3:len ≤ 140737488355328:=by simp only [strs,List.length_map] at h2;rw [hlen] at h2;omega
  refine ⟨some a,len,cap,ss.take len,?_,hlen,hl,by unfold maxLen at hm;omega,?_,h3,?_⟩
  ·cases cs;simp at hcs;rw [hcs]
  ·intro s hs
   have:=h1 s.size (.inr (.inl (weightsAll_mem (d:=.lit (.string s.data.toList)) (by simp only [strs,List.mem_map];exact ⟨s,hs,rfl⟩) _ (by simp [DataW.weights]))))
   omega
  ·by_cases h0:ss.take len = []
   ·exact .inl h0
   ·right
    obtain ⟨b,o,sp⟩:=a
    have hpos:0 < (ss.take len).length:=List.length_pos_iff.2 h0
    have hcl:∀ j u,((ss.take len).map Value.string)[j]? = some u → W.cell? ((⟨b,o,sp⟩:Addr).add j) = some u:=fun j u hu => by
     have hj:=(List.getElem?_eq_some_iff.1 hu).1
     rw [List.length_map,hlen] at hj
     have hjs:j < ss.length:=by split at hz <;> omega
     rw [hcell j hjs]
     rw [List.getElem?_map,List.getElem?_take_of_lt hj,List.getElem?_eq_getElem hjs] at hu
     rw [List.getD_eq_getElem?_getD,List.getElem?_eq_getElem hjs];simpa using hu
    obtain ⟨u,hu⟩:∃ u,((ss.take len).map Value.string)[0]? = some u:=⟨_,List.getElem?_eq_getElem (by rw [List.length_map];omega)⟩
    have hspot:sp = none:=by simpa [Addr.add] using World.cell?_spot (hcl 0 u hu)
    subst hspot
    exact ⟨b,o,rfl,fun j v hj => by rw [← Addr.add_mid];exact hcl j v hj⟩
end
/- Arguments as the reader reads them: lists of hashes, a struct of two such lists and a number. No program in sight. -/
section
variable {H:Type} {enc:TypeId × Value → H} {P:Program} {w:World} {base:Nat} {spare:Nat → Bool} {held:Bool}
theorem byte_open {e:TypeId} {n:Nat} {cs:List Value} {x:DataW H × List MemPlace} (he:P.underlying e = some (.int .u8)) (h:DataW.trod enc P w base spare held n e cs = some x):∃ b:UInt8,cs = [byteV b]:=by
 obtain ⟨m,rfl,rfl,hw⟩:=DataW.trod_int he h
 have hb:=wf_u8 hw
 refine ⟨UInt8.ofNat (m % 256).toNat,?_⟩
 rw [byteV_ofInt,Int.emod_eq_of_lt hb.1 hb.2]
theorem bytes_of_each:∀ (cs:List Value),(∀ i,i < cs.length → ∃ b:UInt8,(cs.drop i).take 1 = [byteV b]) → ∃ l:List UInt8,cs = bytesV l
 | [],_ => ⟨[],rfl⟩
 | v :: r,h => by
  obtain ⟨b,hb⟩:=h 0 (by simp)
  simp at hb
  obtain ⟨l,rfl⟩:=bytes_of_each r (fun i hi => by simpa using h (i+1) (by simpa using hi))
  exact ⟨b :: l,by rw [hb];rfl⟩
theorem hash_open {t e:TypeId} {n k:Nat} {cs:List Value} {x:DataW H × List MemPlace} (ht:P.underlying t = some (.array k e)) (he:P.underlying e = some (.int .u8)) (hce:P.cellsOf e = 1) (hct:P.cellsOf t = k)
 (h:DataW.trod enc P w base spare held n t cs = some x):∃ l:List UInt8,l.length = k ∧ cs = bytesV l:=by
 obtain ⟨xs,m,rfl,_,hl,hxl,hel⟩:=DataW.trod_array ht h
 rw [hct] at hl
 obtain ⟨l,rfl⟩:=bytes_of_each cs (fun i hi => by
  have:=hel i (by omega)
  rw [hce,Nat.mul_one] at this
  obtain ⟨y,hy⟩:∃ y,xs[i]? = some y:=⟨_,List.getElem?_eq_getElem (by omega)⟩
  rw [hy] at this
  exact byte_open he this)
 exact ⟨l,by rw [← hl,bytesV_length],rfl⟩
theorem collect_list {α:Type} {Q:Nat → α → Prop}:∀ (n:Nat),(∀ i,i < n → ∃ y,Q i y) → ∃ L:List α,L.length = n ∧ ∀ i y,L[i]? = some y → Q i y
 | 0,_ => ⟨[],rfl,fun i y h => by simp at h⟩
 | n+1,h => by
  obtain ⟨L,hL,hq⟩:=collect_list n (fun i hi => h i (by omega))
  obtain ⟨y,hy⟩:=h n (by omega)
  refine ⟨L ++ [y],by simp [hL],fun i z hz => ?_⟩
  by_cases hi:i < n
  ·rw [List.getElem?_append_left (by omega)] at hz;exact hq i z hz
  ·rw [List.getElem?_append_right (by omega)] at hz
   obtain rfl:i = n:=by have:=(List.getElem?_eq_some_iff.1 hz).1;simp at this;omega
   simp [hL] at hz;subst hz;exact hy
theorem hashes_open {t q e:TypeId} {n:Nat} {cs:List Value} {x:DataW H × List MemPlace} (hs:P.underlying t = some (.slice q)) (hq:P.underlying q = some (.array 32 e)) (he:P.underlying e = some (.int .u8)) (hce:P.cellsOf e = 1) (hcq:P.cellsOf q = 32)
 (h:DataW.trod enc P w base spare held n t cs = some x):∃ A len cap l,cs = [.slice A len cap] ∧ HRd w (.slice A len cap) l ∧ l.length = len ∧ cap ≤ maxLen ∧ ∀ b,(∀ z ∈ x.1.weights P t,z ≤ b) → len * P.bytesOf q ≤ b:=by
 rcases open_slice hs h with ⟨rfl,rfl⟩ | ⟨a,len,cap,m,k,D,Pl,rfl,hb,hl,hm,hmm,rfl,hx⟩
 ·exact ⟨none,0,0,[],rfl,⟨H32.nil,none,0,rfl,Nat.le_refl _,.inl rfl⟩,rfl,Nat.zero_le _,fun b _ => by simp⟩
 ·have hlm:len ≤ m:=by rw [hmm];split <;> omega
  obtain ⟨L,hL,hQ⟩:=collect_list (Q:=fun i y => y.length = 32 ∧ ∀ j,j < 32 → w.cell? (a.add (i * 32+j)) = (bytesV y)[j]?) len (fun i hi => by
   obtain ⟨cs',h1,h2⟩:=hx i (by omega)
   rw [hcq] at h1
   obtain ⟨_,_,h3⟩:=World.cells?_some h1
   obtain ⟨y,hy,rfl⟩:=hash_open hq he hce hcq h2
   exact ⟨y,hy,fun j hj => by rw [← add_add];exact h3 j hj⟩)
  have h32:H32 L:=fun y hy => by
   obtain ⟨i,hi⟩:=List.getElem?_of_mem hy
   exact (hQ i y hi).1
  refine ⟨_,len,cap,L,rfl,⟨h32,_,cap,by rw [hL],by omega,?_⟩,hL,hm,fun b hb => Nat.le_trans (Nat.mul_le_mul_right _ (Nat.le_add_right len (m - len))) (hb _ (by simp [DataW.weights,hs]))⟩
  by_cases h0:L = []
  ·exact .inl h0
  ·right
   have hpos:0 < L.length:=List.length_pos_iff.2 h0
   obtain ⟨b,o,sp⟩:=a
   have hcell:∀ j v,(hashCells L)[j]? = some v → w.cell? ((⟨b,o,sp⟩:Addr).add j) = some v:=fun j v hj => by
    have hjl:=(List.getElem?_eq_some_iff.1 hj).1
    rw [hashCells_length h32] at hjl
    obtain ⟨y,hy⟩:∃ y,L[j / 32]? = some y:=⟨_,List.getElem?_eq_getElem (by omega)⟩
    obtain ⟨hy1,hy2⟩:=hQ _ y hy
    obtain ⟨u,hu⟩:∃ u,(bytesV y)[j % 32]? = some u:=⟨_,List.getElem?_eq_getElem (by rw [bytesV_length];omega)⟩
    have h3:=hashCells_at h32 hy hu
    have h4:=hy2 (j % 32) (by omega)
    rw [show j / 32 * 32+j % 32 = j by omega] at h3 h4
    rw [h4,hu,← h3,hj]
   have hc0:∃ v,(hashCells L)[0]? = some v:=⟨_,List.getElem?_eq_getElem (by rw [hashCells_length h32];omega)⟩
   obtain ⟨v,hv⟩:=hc0
   have hspot:sp = none:=by simpa [Addr.add] using World.cell?_spot (hcell 0 v hv)
   subst hspot
   exact ⟨b,o,rfl,fun j v hj => by rw [← Addr.add_mid];exact hcell j v hj⟩
end
/- A list of hashes as an argument, opened. No condition. -/
section
variable {H:Type} {enc:TypeId × Value → H} {W:World} {base:Nat} {spare:Nat → Bool} {held:Bool}
theorem hrd_in {w:World} {A:Option Addr} {n cap:Nat} {l:List (List UInt8)} (h:HRd w (.slice A n cap) l) (hn:l.length = n) (hc:cap ≤ maxLen):HIn w A n cap l:=by
 obtain ⟨h1,A',cap',e,h2,h3⟩:=h
 cases e
 exact ⟨h1,rfl,h2,by unfold maxLen at hc;omega,h3⟩
theorem hashes_arg {n:Nat} {cs:Array Value} {x:DataW H × List MemPlace} (h:DataW.trod enc Tryz.prog W base spare held n 24 cs.toList = some x) (hw:∀ z ∈ x.1.weights Tryz.prog 24,z ≤ reachBytes) :
 ∃ A k c l,cs = #[.slice A k c] ∧ HIn W A k c l ∧ k ≤ 9000000000000000000:=by
 obtain ⟨A,k,c,l,hcs,r,e,m,hz⟩:=hashes_open (e:=5) Tryz.underlying24 Tryz.underlying39 Tryz.underlying5 (by kernel_rfl) (by kernel_rfl) h
 have hz:=hz _ hw
 have hb:Tryz.prog.bytesOf 39 = 32:=by kernel_rfl
 have hr:=reachBytes_lt
 rw [hb] at hz
 refine ⟨A,k,c,l,?_,hrd_in r e m,by omega⟩
 cases cs
 simp at hcs
 rw [hcs]
end
/- cartularylaw20.right of what is so. Condition: the package-level variables read as listed. -/
open Go.ChangeShapes Go.WideShapes Go.ChangeAt Go.RowKit
theorem run_buildSlice_str (w:World) (s:ByteArray):(Instr.buildSlice 22 1 #[(0,.string s)]).run Tryz.prog w = .ok (.slice (some ⟨w.heap.size,0,none⟩) 1 1) (w.alloc (.cells #[.string s] 9)):=by
 simp [Instr.buildSlice,run_underlying Tryz.underlying22,Tryz.sizeOf9,Tryz.zeroValue9,Instr.fill,newRow,Value.cells]
 have h1:∀ (x:Array Value),x.size = 1 → x.setIfInBounds 0 (.string s) = #[.string s]:=fun x hx => by
  apply Array.ext
  ·simp [hx]
  ·intro i h1 h2
   have:i = 0:=by simp at h2;omega
   subst this
   simp
 rw [h1 _ (by simp)]
theorem wp_buildSlice_str {o:Oper} {a:Act} {w:World} {K:Act → World → Prop} {Q:Exit → Act → World → Prop} (x:Operand) (s:ByteArray) (ho:o.op = .buildSlice 22 1 #[(0,x)]) (hx:a.eval x = .string s)
 (h:K (a.put o.dst (.slice (some ⟨w.heap.size,0,none⟩) 1 1)) (w.alloc (.cells #[.string s] 9))):o.wp Tryz.prog a w K Q:=by
 unfold Oper.wp execOp
 simp only [ho,List.map_toArray,List.map_cons,List.map_nil,hx,Sem.run_bind,Sem.run_pure,Result.andThen_ok,run_buildSlice_str w s]
 exact h
theorem sum1_any (a:Nat → Addr) (B:Nat) (s:ByteArray) (w:World) (hs:s.size ≤ 100000000000) (hE:Env B a (w.alloc (.cells #[.string s] 9))) :
 Calls Tryz.prog 40 #[.slice (some ⟨w.heap.size,0,none⟩) 1 1] (w.alloc (.cells #[.string s] 9)) fun ev w' => ev = .returned (hv (shaB (bOf s))) ∧ Below (w.alloc (.cells #[.string s] 9)).heap.size (w.alloc (.cells #[.string s] 9)) w':=by
 have:=sum_any (some ⟨w.heap.size,0,none⟩) 1 [s] (w.alloc (.cells #[.string s] 9)) (trd_new w w.heap.size 1 [s] #[.string s] (0,0) rfl rfl rfl) (by simp [catB,bOf_length];omega) (by simp) hE.tab
 simpa [catB] using this
theorem bytes_self (s:ByteArray):(s == s) = true:=(Go.MapKept.bytes_beq s s).2 rfl
/- What a log that is not there answers. Condition: the package-level variables read as listed. -/
theorem lroot_over (a:Nat → Addr) (B base b0:Nat) (v:Value) (L:List ByteArray) (sz:Int) (w:World) (hE:Env B a w) (h1:LogAt base b0 v L w) (h2:(L.length:Int) < sz) (h3:sz < 18446744073709551616) :
 Calls Tryz.prog 20 #[.pointer (some ⟨b0,0,none⟩),.int .u64 sz] w fun ev w' => ev = .returned (.tuple #[hv zeroH,errV a 5]) ∧ Below w.heap.size w w':=by
 have hBa:Hid (Below w.heap.size w (w.alloc (.cells (List.replicate 32 (Value.int .u8 0)).toArray 39))):=hid ((Below.refl _ _).alloc (Nat.le_refl _) _)
 have HG:=hid (heap_at w (.cells (List.replicate 32 (Value.int .u8 0)).toArray 39) w.heap.size rfl)
 have hsw:w.heap.size < (w.alloc (.cells (List.replicate 32 (Value.int .u8 0)).toArray 39)).heap.size:=by simp
 obtain ⟨wa,hwa⟩:∃ wa,w.alloc (.cells (List.replicate 32 (Value.int .u8 0)).toArray 39) = wa:=⟨_,rfl⟩
 rw [hwa] at hBa HG hsw
 have hst:=tree_bad a B base b0 v L 0 sz wa (hE.step hBa.out) (h1.below hBa.out) (by omega) (by omega) (by omega) h3 (.inr h2)
 have HWA:=hid hwa
 simp only [List.replicate,List.toArray] at HWA
 obtain ⟨vx,evx,EX,ZX,IX,OX⟩:=row_of zeroH zeroH_length
 rw [evx] at hst ⊢
 have HST:=hid hst
 clear hE h1 h2 h3 hwa hst evx
 go_enter Tryz.func20,Tryz.ntmps20
 go_upto_region 1 with fail
 rw [HWA.out]
 go_wp2_with fail
 refine HST.out.mono ?_
 rintro ev w1 ⟨rfl,hb⟩
 have HG1:=hid ((hb.block _ hsw).trans HG.out)
 have HB:=hid hb
 clear hb
 unfold errV
 go_wp2_with (refine wpList_store_row rfl 39 _ _ rfl w.heap.size vx rfl rfl 39 _ HG1.out IX.out (by rw [ZX.out];simp) OX.out ?_)
 refine bodyPost_ret (v:=.tuple #[.agg vx,errV a 5]) (results_row_tmp rfl _ _ w.heap.size 39 vx (0,0) _ rfl (setRow_heap _ _ _ _ _ _ HG1.out) Tryz.underlying39 rfl IX.out _ rfl) rfl ⟨rfl,?_⟩
 exact below_setRow (hBa.out.trans (HB.out.mono (by omega))) _ _ (by omega)
/- verify.Root, Inclusion where the path is too short. Condition: the package-level variables read as listed. -/
theorem vroot_short (a:Nat → Addr) (B:Nat) (h:List UInt8) (w:World) (hE:Env B a w) (hh:h.length = 32) :
 Calls Tryz.prog 50 #[.int .u64 0,.int .u64 3,hv h,.slice none 0 0] w fun e w' => e = .returned (.tuple #[hv zeroH,errV a 10]) ∧ Below w.heap.size w w':=by
 have HE:=hid hE
 obtain ⟨vh,evh,Hvh,Zvh,Ivh,Ovh⟩:=row_of h hh
 rw [evh]
 have HH:=hid (And.intro hh evh)
 obtain ⟨vz,ez,Hvz,Zvz,Ivz,Ovz⟩:=row_of zeroH zeroH_length
 have HZV:Hid (vz = #[.int .u8 0,.int .u8 0,.int .u8 0,.int .u8 0,.int .u8 0,.int .u8 0,.int .u8 0,.int .u8 0,.int .u8 0,.int .u8 0,.int .u8 0,.int .u8 0,.int .u8 0,.int .u8 0,.int .u8 0,.int .u8 0,.int .u8 0,.int .u8 0,.int .u8 0,.int .u8 0,.int .u8 0,.int .u8 0,.int .u8 0,.int .u8 0,.int .u8 0,.int .u8 0,.int .u8 0,.int .u8 0,.int .u8 0,.int .u8 0,.int .u8 0,.int .u8 0]):=hid (by rw [zeroH_v] at ez;cases ez;rfl)
 have EZ:=hid ez
 have hWB:Below w.heap.size w ((w.alloc (.cells vh 39)).alloc (.cells (List.replicate 32 (Value.int .u8 0)).toArray 39)):=((Below.refl _ _).alloc (Nat.le_refl _) _).alloc (by simp) _
 have hR6:((w.alloc (.cells vh 39)).alloc (.cells (List.replicate 32 (Value.int .u8 0)).toArray 39)).heap[w.heap.size]? = some (.cells vh 39 (0,0)):=by
  rw [((Below.refl _ (w.alloc (.cells vh 39))).alloc (Nat.le_refl _) _).block w.heap.size (by simp)];exact heap_at _ _ _ rfl
 have hR8:((w.alloc (.cells vh 39)).alloc (.cells (List.replicate 32 (Value.int .u8 0)).toArray 39)).heap[w.heap.size+1]? = some (.cells (List.replicate 32 (Value.int .u8 0)).toArray 39 (0,0)):=heap_at _ _ _ (by simp)
 have hsw:((w.alloc (.cells vh 39)).alloc (.cells (List.replicate 32 (Value.int .u8 0)).toArray 39)).heap.size = w.heap.size+2:=by simp
 obtain ⟨wv,hwv⟩:∃ wv,(w.alloc (.cells vh 39)).alloc (.cells (List.replicate 32 (Value.int .u8 0)).toArray 39) = wv:=⟨_,rfl⟩
 rw [hwv] at hWB hR6 hR8 hsw
 have HWV:=hid hwv
 simp only [List.replicate,List.toArray] at HWV
 have HR6:=hid hR6
 have HR8:=hid hR8
 have HSW:=hid hsw
 have HWB:=hid hWB
 have hd1:decide ((9223372036854775808:Int) < 3) = false:=by decide
 have hd2:decide ((3:Int) ≤ 0) = false:=by decide
 rw [ez]
 clear hE evh ez hwv hR6 hR8 hsw hWB
 go_enter Tryz.func50,Tryz.ntmps50
 go_upto_region 1 with fail
 rw [HWV.out]
 go_upto_region 3 with fail
 have gv:Below w.heap.size w wv:=HWB.out
 have hsv:w.heap.size+2 ≤ wv.heap.size:=by have:=HSW.out;omega
 have KV:Hid (∀ w',Gr wv w' → w'.heap[w.heap.size]? = some (.cells vh 39 (0,0))):=hid (fun w' h => (h.block _ (by omega)).trans HR6.out)
 refine wp_region_held_drew (S:=Gr wv) (by kernel_rfl) ((Gr.refl _).drew) (fun hHeld => ?_)
 refine tk (i:=0) (v:=?v1) rfl ?y1 ?r1
 case y1 => (intro w hSw;(try dsimp only at hSw);go_simp;(try with_reducible rfl))
 try simp only [pu]
 refine tk (i:=1) (v:=?v2) rfl ?y2 ?r2
 case y2 => (intro w hSw;(try dsimp only at hSw);go_simp;(try with_reducible rfl))
 try simp only [pu]
 refine tw (i:=2) rfl (yieldsIf_load_row (by rfl) 39 _ (by rfl) _ (by rfl) 39 vh (0,0) _ (fun w h => KV.out w h) Tryz.underlying39 rfl Ivh.out) ?_
 try simp only [pu]
 refine wpAnyH_ready (rs:=[3]) (by kernel_rfl) (by simp) ?_
 refine AllReadyH.cons (i:=3) rfl (fun K2 hK2 => ?_) AllReadyH.nil
 go_simp
 obtain ⟨wa,hwa⟩:∃ x,(wv.alloc (.cells (List.replicate 32 (Value.int .u8 0)).toArray 39)).drew = x:=⟨_,rfl⟩
 have ba:Below wv.heap.size wv wa:=by rw [← hwa];exact ((Below.refl _ wv).alloc (Nat.le_refl _) _).drew
 have Ra:Hid (wa.heap[wv.heap.size]? = some (.cells (List.replicate 32 (Value.int .u8 0)).toArray 39 (0,0))):=hid (by rw [← hwa];exact heap_at wv _ _ rfl)
 have hsa:wv.heap.size+1 ≤ wa.heap.size:=by rw [← hwa];simp
 simp only [List.replicate] at hwa
 rw [hwa]
 clear hwa
 refine hK2.out _ _ (show Gr wv _ from (by repeat (first | exact Gr.refl _ | (refine Gr.step ?_ (by assumption)) | (refine Gr.alloc ?_ _) | (refine Gr.drew ?_)))) (fun hHeld2 => ?_)
 clear hK2 K2
 try simp only [pu]
 refine tk (i:=4) (v:=?v4) rfl ?y4 ?r4
 case y4 => (intro w hSw;(try dsimp only at hSw);go_simp;(try with_reducible rfl))
 try simp only [pu]
 refine wpAnyH_ready (rs:=[5]) (by kernel_rfl) (by simp) ?_
 refine AllReadyH.cons (i:=5) rfl (fun K2 hK2 => ?_) AllReadyH.nil
 rw [if_pos (by rfl)]
 refine wp_store_row 39 _ _ rfl wv.heap.size vh rfl rfl 39 _ Ra.out Ivh.out (by rw [Zvh.out];simp) Ovh.out ?_
 refine hK2.out _ _ (show Gr wv _ from below_setRow (show Gr wv wa from (by repeat (first | exact Gr.refl _ | (refine Gr.step ?_ (by assumption)) | (refine Gr.alloc ?_ _) | (refine Gr.drew ?_)))) _ _ (Nat.le_refl _)) (fun hHeld2 => ?_)
 clear hK2 K2
 try simp only [pu]
 refine wpAnyH_done (by kernel_rfl) ?_ _
 have HBL:Hid (Below w.heap.size w (wa.setRow wv.heap.size vh)):=hid (below_setRow (show Gr w wa from (by repeat (first | exact Gr.refl _ | (refine Gr.step ?_ (by assumption)) | (refine Gr.alloc ?_ _) | (refine Gr.drew ?_)))) _ _ (by omega))
 have HRL:Hid ((wa.setRow wv.heap.size vh).heap[wv.heap.size]? = some (.cells vh 39 (0,0))):=hid (setRow_heap _ _ _ _ _ _ Ra.out)
 have HR8L:Hid ((wa.setRow wv.heap.size vh).heap[w.heap.size+1]? = some (.cells (List.replicate 32 (Value.int .u8 0)).toArray 39 (0,0))):=hid (by
  rw [setRow_other _ _ _ _ (by omega)];exact (ba.block _ (by omega)).trans HR8.out)
 have hsL:wv.heap.size+1 ≤ (wa.setRow wv.heap.size vh).heap.size:=by simp;omega
 obtain ⟨wL,hwL⟩:∃ x,wa.setRow wv.heap.size vh = x:=⟨_,rfl⟩
 rw [hwL] at HBL HRL HR8L hsL ⊢
 clear hwL ba Ra hsa gv
 go_wp2_with fail
 go_loopw [0,10,28] (fun n l i wr => i = .int .i64 0 ∧ n = .int .u64 0 ∧ l = .int .u64 2 ∧ wL = wr) (fun _ _ _ _ => 0)
 case atStart => exact ⟨rfl,rfl,by go_num,rfl⟩
 case round =>
  obtain ⟨rfl,rfl,rfl,rfl⟩:=hrel
  go_wp2_with fail
  refine wp_region_held_drew (S:=Gr w) (by kernel_rfl) (Gr.drew (show Gr w wL from HBL.out)) (fun hHeld => ?_)
  refine tw (i:=0) rfl (show YieldsIf _ _ _ _ (.agg vz) _ from .inl ⟨by rfl,fun w h => by rw [HZV.out];kernel_rfl⟩) ?_
  try simp only [pu]
  refine tk (i:=1) (v:=?v6) rfl ?y6 ?r6
  case y6 => (intro w hSw;(try dsimp only at hSw);have q9:=cell_below hSw (HE.out.laid.e10) (block_of_cell HE.out.laid.e10);go_simp;(try with_reducible rfl))
  try simp only [pu]
  refine wpAnyH_ready (rs:=[2]) (by kernel_rfl) (by simp) ?_
  refine AllReadyH.cons (i:=2) rfl (fun K2 hK2 => ?_) AllReadyH.nil
  rw [if_pos (by rfl)]
  refine wp_store_row 39 _ _ rfl (w.heap.size+1) vz rfl rfl 39 _ HR8L.out Ivz.out (by rw [Zvz.out];simp) Ovz.out ?_
  refine hK2.out _ _ (show Gr w _ from below_setRow (show Below w.heap.size w wL.drew from HBL.out.drew) _ _ (by omega)) (fun hHeld2 => ?_)
  clear hK2 K2
  try simp only [pu]
  refine tk (i:=3) (v:=?v7) rfl ?y7 ?r7
  case y7 => (intro w hSw;(try dsimp only at hSw);go_simp;(try with_reducible rfl))
  try simp only [pu]
  refine wpAnyH_done (by kernel_rfl) ?_ _
  go_wp2
  refine bodyPost_ret (v:=.tuple #[.agg vz,errV a 10]) (results_row_tmp rfl _ _ (w.heap.size+1) 39 vz (0,0) _ rfl (setRow_heap wL.drew _ _ _ _ _ HR8L.out) Tryz.underlying39 rfl Ivz.out _ rfl) rfl ⟨rfl,hHeld2⟩
theorem vincl_short (a:Nat → Addr) (B:Nat) (h r:List UInt8) (w:World) (hE:Env B a w) (hh:h.length = 32) (hr:r.length = 32) :
 Calls Tryz.prog 21 #[.int .u64 0,.int .u64 3,hv h,.slice none 0 0,hv r] w fun e w' => e = .returned (errV a 10) ∧ Below w.heap.size w w':=by
 obtain ⟨vh,evh,Hvh,Zvh,Ivh,Ovh⟩:=row_of h hh
 obtain ⟨vr,evr,Hvr,Zvr,Ivr,Ovr⟩:=row_of r hr
 obtain ⟨vz,evz,Hvz,Zvz,Ivz,Ovz⟩:=row_of zeroH zeroH_length
 have hB0:Below w.heap.size w ((w.alloc (.cells vh 39)).alloc (.cells vr 39)):=((Below.refl _ _).alloc (Nat.le_refl _) _).alloc (by simp) _
 have hR7:((w.alloc (.cells vh 39)).alloc (.cells vr 39)).heap[w.heap.size]? = some (.cells vh 39 (0,0)):=by
  rw [((Below.refl _ (w.alloc (.cells vh 39))).alloc (Nat.le_refl _) _).block w.heap.size (by simp)];exact heap_at _ _ _ rfl
 obtain ⟨wv,hwv⟩:∃ wv,(w.alloc (.cells vh 39)).alloc (.cells vr 39) = wv:=⟨_,rfl⟩
 rw [hwv] at hB0 hR7
 have HROOT:Hid (Calls Tryz.prog 50 #[.int .u64 0,.int .u64 3,.agg vh,.slice none 0 0] wv fun e w' => e = .returned (.tuple #[.agg vz,errV a 10]) ∧ Below wv.heap.size wv w'):=hid (by
  have:=vroot_short a B h wv (hE.step hB0) hh
  rw [evh,evz] at this
  exact this)
 have HWV:=hid hwv
 have HB:=hid hB0
 have R7:=hid hR7
 rw [evh,evr]
 clear hE evh evr evz hwv hB0 hR7 hh hr
 unfold errV at HROOT ⊢
 go_enter Tryz.func21,Tryz.ntmps21
 go_upto_region 1 with fail
 rw [HWV.out]
 go_wp2_with (refine wpList_load_row rfl 39 _ rfl w.heap.size rfl 39 vh (0,0) _ R7.out Tryz.underlying39 rfl Ivh.out ?_)
 refine HROOT.out.mono ?_
 rintro ev w1 ⟨rfl,b1⟩
 go_upto_region 2 with (refine wpList_store_row_any rfl 39 _ _ rfl w1.heap.size vz rfl rfl 39 _ (heap_at _ _ _ rfl) Ivz.out (by rw [Zvz.out];rfl) Ovz.out ?_;intro w2 hbN hgN hsN;have b2:Below w1.heap.size w1 w2:=((Below.refl _ w1).alloc (Nat.le_refl _) _).trans (hbN.to_below (by simp) (fun k hk q => by omega));clear hbN hgN hsN)
 have HF:Hid (Below w.heap.size w w2):=hid (HB.out.trans ((b1.trans (b2.mono b1.size)).mono HB.out.size))
 clear b1 b2
 go_wp2_with fail
 go_ret
 exact ⟨rfl,HF.out⟩
/- cartularylaw20.lives answers true. Condition: the package-level variables read as listed. -/
def l3:List ByteArray:=[⟨#[97]⟩,⟨#[98]⟩,⟨#[99]⟩]
theorem l3_kept:keptL l3 = l3:=by unfold keptL;rfl
theorem l3_path:(treesB l3 (pathL 64 0 0 3)).length = 2:=by rw [treesB_len];decide +kernel
theorem lives20_any (a:Nat → Addr) (B:Nat) (w:World) (hE:Env B a w):Calls Tryz.prog 12 #[] w fun ev w' => ev = .returned (.bool true) ∧ Below w.heap.size w w':=by
 have HE:=hid hE
 have k3:l3.length = 3:=rfl
 obtain ⟨vr,evr,Hvr,Zvr,Ivr,Ovr⟩:=row_of (treeB l3 0 3) (treeB_len _ _ _)
 obtain ⟨vt,evt,Hvt,Zvt,Ivt,Ovt⟩:=row_of (treeB l3 0 2) (treeB_len _ _ _)
 obtain ⟨vl,evl,Hvl,Zvl,Ivl,Ovl⟩:=row_of (leafH ⟨#[97]⟩) (leafH_length _)
 have HROOT:Hid (∀ base b v w,Env B a w → LogAt base b v l3 w → Calls Tryz.prog 20 #[.pointer (some ⟨b,0,none⟩),.int .u64 3] w fun ev w' => ev = .returned (.tuple #[.agg vr,.nilIface]) ∧ Below w.heap.size w w'):=hid (fun base b v w h1 h2 => by
  have:=lroot_ok a B base b v l3 3 w h1 h2 (by omega) (by decide)
  rw [evr] at this;exact this)
 have HROOT2:Hid (∀ base b v w,Env B a w → LogAt base b v l3 w → Calls Tryz.prog 20 #[.pointer (some ⟨b,0,none⟩),.int .u64 2] w fun ev w' => ev = .returned (.tuple #[.agg vt,.nilIface]) ∧ Below w.heap.size w w'):=hid (fun base b v w h1 h2 => by
  have:=lroot_ok a B base b v l3 2 w h1 h2 (by omega) (by decide)
  rw [evt] at this;exact this)
 have HR4:Hid (∀ base b v w,Env B a w → LogAt base b v l3 w → Calls Tryz.prog 20 #[.pointer (some ⟨b,0,none⟩),.int .u64 4] w fun ev w' => ev = .returned (.tuple #[hv zeroH,.iface 203 (.pointer (some (a 5)))]) ∧ Below w.heap.size w w'):=hid (fun base b v w h1 h2 =>
  lroot_over a B base b v l3 4 w h1 h2 (by decide) (by omega))
 obtain ⟨pl,hpl⟩:∃ z,treesB l3 (pathL 64 0 0 3) = z:=⟨_,rfl⟩
 obtain ⟨ql,hql⟩:∃ z,treesB l3 (proofL 64 2 0 3) = z:=⟨_,rfl⟩
 obtain ⟨tl,htl⟩:∃ z,treesB l3 (batchL 64 1 2 0 3) = z:=⟨_,rfl⟩
 have hpl2:pl.length = 2:=by rw [← hpl];exact l3_path
 have HPATH:Hid (∀ base b v w,Env B a w → LogAt base b v l3 w → Calls Tryz.prog 36 #[.pointer (some ⟨b,0,none⟩),.int .u64 0,.int .u64 3] w (HashesPost w pl)):=hid (fun base b v w h1 h2 => by
  have:=lpath_ok a B base b v l3 0 3 w h1 h2 (by omega) (by omega) (by decide)
  rw [hpl] at this;exact this)
 have HPROOF:Hid (∀ base b v w,Env B a w → LogAt base b v l3 w → Calls Tryz.prog 37 #[.pointer (some ⟨b,0,none⟩),.int .u64 2,.int .u64 3] w (HashesPost w ql)):=hid (fun base b v w h1 h2 => by
  have:=lproof_ok a B base b v l3 2 3 w h1 h2 (by omega) (by omega) (by decide)
  rw [hql] at this;exact this)
 have HBATCH:Hid (∀ base b v w,Env B a w → LogAt base b v l3 w → Calls Tryz.prog 38 #[.pointer (some ⟨b,0,none⟩),.int .u64 1,.int .u64 2,.int .u64 3] w (HashesPost w tl)):=hid (fun base b v w h1 h2 => by
  have:=lbatch_ok a B base b v l3 1 2 3 w h1 h2 (by omega) (by omega) (by omega) (by decide)
  rw [htl] at this;exact this)
 have HFI:Hid (∀ base b v A m c w,Env B a w → LogAt base b v l3 w → HIn w A m c pl → Calls Tryz.prog 9 #[.pointer (some ⟨b,0,none⟩),.int .u64 0,.int .u64 3,.string ⟨#[97]⟩,.slice A m c] w fun ev w' => (∃ s,ev = .returned (.tuple #[.string s,.string s,.bool false]) ∧ bOf s = soB l3 3) ∧ Below w.heap.size w w'):=hid (fun base b v A m c w h1 h2 h3 =>
  finc_so a B base b v l3 0 3 ⟨#[97]⟩ A m c w h1 h2 (by omega) (by decide) rfl (by rw [← hpl] at h3;exact h3))
 have HFN:Hid (∀ base b v A m c w,Env B a w → LogAt base b v l3 w → Calls Tryz.prog 9 #[.pointer (some ⟨b,0,none⟩),.int .u64 0,.int .u64 4,.string ⟨#[120]⟩,.slice A m c] w fun ev w' => ev = .returned (.tuple #[.string ⟨#[]⟩,.string ⟨#[]⟩,.bool false]) ∧ Below w.heap.size w w'):=hid (fun base b v A m c w h1 h2 =>
  finc_none (.pointer (some ⟨b,0,none⟩)) 0 4 ⟨#[120]⟩ A m c w (a 5) (fun w' hb => HR4.out base b v w' (h1.step hb) (h2.below hb)))
 have HFC:Hid (∀ base b v A m c w,Env B a w → LogAt base b v l3 w → HIn w A m c ql → Calls Tryz.prog 13 #[.pointer (some ⟨b,0,none⟩),.int .u64 2,.int .u64 3,.agg vt,.slice A m c] w fun ev w' => (∃ s,ev = .returned (.tuple #[.string s,.string s,.bool false]) ∧ bOf s = soB l3 3) ∧ Below w.heap.size w w'):=hid (fun base b v A m c w h1 h2 h3 => by
  have:=fcon_so a B base b v l3 2 3 A m c w h1 h2 (by omega) (by omega) (by decide) (by rw [← hql] at h3;exact h3)
  rw [show ((2:Nat):Int) = 2 from rfl,show ((3:Nat):Int) = 3 from rfl,evt] at this;exact this)
 have HFB:Hid (∀ (base b:Nat) (v:Value) (A:Option Addr) (m c:Nat) (w0:World),Env B a (w0.alloc (.cells #[.string ⟨#[98]⟩] 9)) → LogAt base b v l3 (w0.alloc (.cells #[.string ⟨#[98]⟩] 9)) → HIn (w0.alloc (.cells #[.string ⟨#[98]⟩] 9)) A m c tl → Calls Tryz.prog 39 #[.pointer (some ⟨b,0,none⟩),.int .u64 1,.int .u64 3,.slice (some ⟨w0.heap.size,0,none⟩) 1 1,.slice A m c] (w0.alloc (.cells #[.string ⟨#[98]⟩] 9)) fun ev w' => (∃ s,ev = .returned (.tuple #[.string s,.string s,.bool false]) ∧ bOf s = soB l3 3) ∧ Below (w0.alloc (.cells #[.string ⟨#[98]⟩] 9)).heap.size (w0.alloc (.cells #[.string ⟨#[98]⟩] 9)) w'):=hid (fun base b v A m c w0 h1 h2 h3 => by
  have e1:((1:Nat):Int) = 1:=rfl
  have e2:((2:Nat):Int) = 2:=rfl
  have e3:((3:Nat):Int) = 3:=rfl
  have hS:SIn (w0.alloc (.cells #[.string ⟨#[98]⟩] 9)) (some ⟨w0.heap.size,0,none⟩) 1 1 [(⟨#[98]⟩:ByteArray)]:=⟨rfl,by omega,by omega,by intro s hs;simp at hs;subst hs;decide,by omega,.inr ⟨_,_,rfl,fun j u hu => by
   rw [Nat.zero_add]
   refine cell_new _ _ j u ?_
   match j,hu with
   | 0,hu => exact hu
   | j+1,hu => simp at hu⟩⟩
  have hD:(l3.drop 1).take (2 - 1) = [(⟨#[98]⟩:ByteArray)]:=rfl
  have:=fbat_so a B base b v l3 1 2 3 (some ⟨w0.heap.size,0,none⟩) 1 A m c _ h1 h2 (by omega) (by omega) (by decide) (by rw [hD];exact hS) (by rw [e1,e2,e3,htl];exact h3)
  rw [e1,e3] at this
  exact this)
 have HLF:Hid (∀ w,Env B a w → Calls Tryz.prog 22 #[.string ⟨#[97]⟩] w fun ev w' => ev = .returned (.agg vl) ∧ Below w.heap.size w w'):=hid (fun w e => by
  have:=hleaf_any ⟨#[97]⟩ w (by decide) e.tab
  rw [evl] at this;exact this)
 have HIN:Hid (∀ A c w,Env B a w → HIn w A 2 c pl → Calls Tryz.prog 21 #[.int .u64 0,.int .u64 3,.agg vl,.slice A 2 c,.agg vr] w fun e w' => e = .returned .nilIface ∧ Below w.heap.size w w'):=hid (fun A c w e q => by
  have:=t_incl a B l3 3 0 2 c A w e (by decide) (by decide) (by omega) (by rw [← hpl] at q;exact q)
  rw [show ((0:Nat):Int) = 0 from rfl,show ((3:Nat):Int) = 3 from rfl,evr,show leafG l3 0 = leafH ⟨#[97]⟩ from rfl,evl] at this;exact this)
 have HIS:Hid (∀ w,Env B a w → Calls Tryz.prog 21 #[.int .u64 0,.int .u64 3,.agg vl,.slice none 0 0,.agg vr] w fun e w' => e = .returned (.iface 203 (.pointer (some (a 10)))) ∧ Below w.heap.size w w'):=hid (fun w e => by
  have:=vincl_short a B _ _ w e (leafH_length ⟨#[97]⟩) (treeB_len l3 0 3)
  rw [evl,evr] at this;exact this)
 have HI10:Hid (∀ w,Env B a w → Calls Tryz.prog 41 #[.iface 203 (.pointer (some (a 10))),.int .i64 10] w fun e w' => e = .returned (.bool true) ∧ Below w.heap.size w w'):=hid (fun w e => is_sent a B 10 w e.laid (by omega) (by omega))
 have HSHA:Hid (shaB (soB l3 3) = treeB l3 0 3 ∧ soB l3 3 ≠ [] ∧ (soB l3 3).length ≤ 70000):=hid ⟨soB_sha (L:=l3) (sz:=3) (by omega) (by decide) (by decide),soB_ne _ _,soB_len (L:=l3) (sz:=3) (by omega) (by decide) ⟨by decide,by intro s hs;simp [l3] at hs;rcases hs with rfl | rfl | rfl <;> decide⟩⟩
 have HSMA:Hid (∀ (s:ByteArray) (w:World),bOf s = soB l3 3 → Env B a (w.alloc (.cells #[.string s] 9)) → Calls Tryz.prog 40 #[.slice (some ⟨w.heap.size,0,none⟩) 1 1] (w.alloc (.cells #[.string s] 9)) fun ev w' => ev = .returned (.agg vr) ∧ Below (w.alloc (.cells #[.string s] 9)).heap.size (w.alloc (.cells #[.string s] 9)) w'):=hid (fun s w hs e => by
  have:=sum1_any a B s w (by have:=HSHA.out.2.2;rw [← hs,bOf_length] at this;omega) e
  rw [hs,HSHA.out.1,evr] at this;exact this)
 have hqr:∀ w,(Op.equalIn 10000 39 (.agg vr) (.agg vr)).run Tryz.prog w = .ok true w:=fun w => by rw [eq_hash _ _ (treeB_len l3 0 3) (treeB_len l3 0 3) vr vr evr evr w];simp
 have HSIN:Hid (SIn (w.alloc (.cells #[.string ⟨#[97]⟩,.string ⟨#[98]⟩,.string ⟨#[99]⟩] 9)) (some ⟨w.heap.size,0,none⟩) 3 3 l3):=hid ⟨rfl,by omega,by omega,by intro s hs;simp [l3] at hs;rcases hs with rfl | rfl | rfl <;> decide,by omega,.inr ⟨_,_,rfl,fun j u hu => by
  rw [Nat.zero_add]
  refine cell_new _ _ j u ?_
  match j,hu with
  | 0,hu => exact hu
  | 1,hu => exact hu
  | 2,hu => exact hu
  | j+3,hu => simp [l3] at hu⟩⟩
 have b0:Gr w (w.alloc (.cells #[.string ⟨#[97]⟩,.string ⟨#[98]⟩,.string ⟨#[99]⟩] 9)):=(Gr.refl w).alloc _
 obtain ⟨w0,hw0⟩:∃ w0,(w.alloc (.cells #[.string ⟨#[97]⟩,.string ⟨#[98]⟩,.string ⟨#[99]⟩] 9)) = w0:=⟨_,rfl⟩
 rw [hw0] at HSIN b0
 have HW0:=hid hw0
 have b0:Below w.heap.size w w0:=b0
 clear hE hw0 evr evt evl hpl hql htl k3
 go_enter Tryz.func12,Tryz.ntmps12
 go_wp2_with fail
 rw [HW0.out]
 refine (logs20_any a B l3 _ 3 3 w0 (HE.out.step (show Gr w w0 from (by repeat (first | exact Gr.refl _ | (refine Gr.step ?_ (by assumption)) | (refine Gr.alloc ?_ _) | (refine Gr.drew ?_))))) HSIN.out (by omega)).mono ?_
 rintro ev w1 ⟨b,v,b2,rfl,hL1,b1⟩
 rw [l3_kept] at hL1
 have HL1:=hid hL1
 clear hL1
 go_wp2_with fail
 refine (HPATH.out _ b v w1 (HE.out.step (show Gr w w1 from (by repeat (first | exact Gr.refl _ | (refine Gr.step ?_ (by assumption)) | (refine Gr.alloc ?_ _) | (refine Gr.drew ?_))))) HL1.out).mono ?_
 rintro ev w2 ⟨hp32,vv,rfl,ho,b20⟩
 obtain ⟨A2,c2,rfl,hc0⟩:=own_shape ho
 have H2:=hid (own_hin ho hp32 rfl)
 clear ho hp32 hc0
 rw [hpl2] at H2 ⊢
 go_wp2_with fail
 refine (HROOT.out _ b v w2 (HE.out.step (show Gr w w2 from (by repeat (first | exact Gr.refl _ | (refine Gr.step ?_ (by assumption)) | (refine Gr.alloc ?_ _) | (refine Gr.drew ?_))))) (HL1.out.below (show Gr w1 w2 from (by repeat (first | exact Gr.refl _ | (refine Gr.step ?_ (by assumption)) | (refine Gr.alloc ?_ _) | (refine Gr.drew ?_)))))).mono ?_
 rintro ev w3 ⟨rfl,b3⟩
 go_upto_region 6 with (refine wpList_store_row_any rfl 39 _ _ rfl w3.heap.size vr rfl rfl 39 _ (heap_at _ _ _ rfl) Ivr.out (by rw [Zvr.out];rfl) Ovr.out ?_;intro w4 hbN hgN hsN;have b4:Below w3.heap.size w3 w4:=((Below.refl _ w3).alloc (Nat.le_refl _) _).trans (hbN.to_below (by simp) (fun k hk q => by omega));have Rw4:=hid hgN;clear hbN hgN hsN)
 go_wp2_with fail
 refine (HFI.out _ b v A2 2 c2 w4 (HE.out.step (show Gr w w4 from (by repeat (first | exact Gr.refl _ | (refine Gr.step ?_ (by assumption)) | (refine Gr.alloc ?_ _) | (refine Gr.drew ?_))))) (HL1.out.below (show Gr w1 w4 from (by repeat (first | exact Gr.refl _ | (refine Gr.step ?_ (by assumption)) | (refine Gr.alloc ?_ _) | (refine Gr.drew ?_))))) (H2.out.below (show Gr w2 w4 from (by repeat (first | exact Gr.refl _ | (refine Gr.step ?_ (by assumption)) | (refine Gr.alloc ?_ _) | (refine Gr.drew ?_)))))).mono ?_
 rintro ev w5 ⟨⟨s,rfl,hs⟩,b5⟩
 have HS:=hid hs
 clear hs
 go_wp2_with fail
 refine (HFN.out _ b v A2 2 c2 w5 (HE.out.step (show Gr w w5 from (by repeat (first | exact Gr.refl _ | (refine Gr.step ?_ (by assumption)) | (refine Gr.alloc ?_ _) | (refine Gr.drew ?_))))) (HL1.out.below (show Gr w1 w5 from (by repeat (first | exact Gr.refl _ | (refine Gr.step ?_ (by assumption)) | (refine Gr.alloc ?_ _) | (refine Gr.drew ?_)))))).mono ?_
 rintro ev w6 ⟨rfl,b6⟩
 go_wp2_with fail
 refine (HPROOF.out _ b v w6 (HE.out.step (show Gr w w6 from (by repeat (first | exact Gr.refl _ | (refine Gr.step ?_ (by assumption)) | (refine Gr.alloc ?_ _) | (refine Gr.drew ?_))))) (HL1.out.below (show Gr w1 w6 from (by repeat (first | exact Gr.refl _ | (refine Gr.step ?_ (by assumption)) | (refine Gr.alloc ?_ _) | (refine Gr.drew ?_)))))).mono ?_
 rintro ev w7 ⟨hp32,vv,rfl,ho,b7⟩
 obtain ⟨A7,c7,rfl,hc0⟩:=own_shape ho
 have H7:=hid (own_hin ho hp32 rfl)
 clear ho hp32 hc0
 generalize hq7:ql.length = n7
 rw [hq7] at H7
 clear hq7
 go_wp2_with fail
 refine (HROOT2.out _ b v w7 (HE.out.step (show Gr w w7 from (by repeat (first | exact Gr.refl _ | (refine Gr.step ?_ (by assumption)) | (refine Gr.alloc ?_ _) | (refine Gr.drew ?_))))) (HL1.out.below (show Gr w1 w7 from (by repeat (first | exact Gr.refl _ | (refine Gr.step ?_ (by assumption)) | (refine Gr.alloc ?_ _) | (refine Gr.drew ?_)))))).mono ?_
 rintro ev w8 ⟨rfl,b8⟩
 go_upto_region 10 with (refine wpList_store_row_any rfl 39 _ _ rfl w8.heap.size vt rfl rfl 39 _ (heap_at _ _ _ rfl) Ivt.out (by rw [Zvt.out];rfl) Ovt.out ?_;intro w9 hbN hgN hsN;have b9:Below w8.heap.size w8 w9:=((Below.refl _ w8).alloc (Nat.le_refl _) _).trans (hbN.to_below (by simp) (fun k hk q => by omega));have Rw9:=hid hgN;clear hbN hgN hsN)
 go_wp2_with fail
 refine (HBATCH.out _ b v w9 (HE.out.step (show Gr w w9 from (by repeat (first | exact Gr.refl _ | (refine Gr.step ?_ (by assumption)) | (refine Gr.alloc ?_ _) | (refine Gr.drew ?_))))) (HL1.out.below (show Gr w1 w9 from (by repeat (first | exact Gr.refl _ | (refine Gr.step ?_ (by assumption)) | (refine Gr.alloc ?_ _) | (refine Gr.drew ?_)))))).mono ?_
 rintro ev w10 ⟨hp32,vv,rfl,ho,b10⟩
 obtain ⟨A10,c10,rfl,hc0⟩:=own_shape ho
 have H10:=hid (own_hin ho hp32 rfl)
 clear ho hp32 hc0
 generalize hq10:tl.length = n10
 rw [hq10] at H10
 clear hq10
 have RT9:Hid (w10.heap[w8.heap.size]? = some (.cells vt 39 (0,0))):=hid ((Below.block (show Gr w9 w10 from (by repeat (first | exact Gr.refl _ | (refine Gr.step ?_ (by assumption)) | (refine Gr.alloc ?_ _) | (refine Gr.drew ?_)))) _ (Array.getElem?_eq_some_iff.1 Rw9.out).1).trans Rw9.out)
 go_wp2_with (refine wpList_load_row rfl 39 _ rfl w8.heap.size rfl 39 vt (0,0) _ RT9.out Tryz.underlying39 rfl Ivt.out ?_)
 refine (HFC.out _ b v A7 n7 c7 w10 (HE.out.step (show Gr w w10 from (by repeat (first | exact Gr.refl _ | (refine Gr.step ?_ (by assumption)) | (refine Gr.alloc ?_ _) | (refine Gr.drew ?_))))) (HL1.out.below (show Gr w1 w10 from (by repeat (first | exact Gr.refl _ | (refine Gr.step ?_ (by assumption)) | (refine Gr.alloc ?_ _) | (refine Gr.drew ?_))))) (H7.out.below (show Gr w7 w10 from (by repeat (first | exact Gr.refl _ | (refine Gr.step ?_ (by assumption)) | (refine Gr.alloc ?_ _) | (refine Gr.drew ?_)))))).mono ?_
 rintro ev w11 ⟨⟨s2,rfl,hs2⟩,b11⟩
 obtain rfl:s = s2:=bOf_inj (HS.out.trans hs2.symm)
 clear hs2
 have b12:Below w11.heap.size w11 (w11.alloc (.cells #[.string ⟨#[98]⟩] 9)):=(Below.refl _ _).alloc (Nat.le_refl _) _
 go_wp2_with fail
 refine (HFB.out _ b v A10 n10 c10 w11 (HE.out.step (show Gr w _ from (by repeat (first | exact Gr.refl _ | (refine Gr.step ?_ (by assumption)) | (refine Gr.alloc ?_ _) | (refine Gr.drew ?_))))) (HL1.out.below (show Gr w1 _ from (by repeat (first | exact Gr.refl _ | (refine Gr.step ?_ (by assumption)) | (refine Gr.alloc ?_ _) | (refine Gr.drew ?_))))) (H10.out.below (show Gr w10 _ from (by repeat (first | exact Gr.refl _ | (refine Gr.step ?_ (by assumption)) | (refine Gr.alloc ?_ _) | (refine Gr.drew ?_)))))).mono ?_
 rintro ev wz ⟨⟨s3,rfl,hs3⟩,b13⟩
 obtain rfl:s = s3:=bOf_inj (HS.out.trans hs3.symm)
 clear hs3
 have HBZ:Hid (Below w.heap.size w wz):=hid (show Gr w wz from (Gr.step (Gr.step (Gr.step (Gr.step (Gr.step (Gr.step (Gr.step (Gr.step (Gr.step (Gr.step (Gr.step (Gr.step (Gr.step (Gr.step (Gr.refl _) b0) b1) b20) b3) b4) b5) b6) b7) b8) b9) b10) b11) b12) b13))
 have HEZ:=hid (HE.out.step HBZ.out)
 have KR:Hid (∀ w',Gr wz w' → w'.heap[w3.heap.size]? = some (.cells vr 39 (0,0))):=hid (fun w' h => (Below.block (show Gr w4 w' from Gr.step (show Gr w4 wz from (Gr.step (Gr.step (Gr.step (Gr.step (Gr.step (Gr.step (Gr.step (Gr.step (Gr.step (Gr.refl _) b5) b6) b7) b8) b9) b10) b11) b12) b13)) h) _ (Array.getElem?_eq_some_iff.1 Rw4.out).1).trans Rw4.out)
 have HPZ:=hid (H2.out.below (show Gr w2 wz from (Gr.step (Gr.step (Gr.step (Gr.step (Gr.step (Gr.step (Gr.step (Gr.step (Gr.step (Gr.step (Gr.step (Gr.refl _) b3) b4) b5) b6) b7) b8) b9) b10) b11) b12) b13)))
 have HSM:Hid (∀ w:World,Env B a (w.alloc (.cells #[.string s] 9)) → Calls Tryz.prog 40 #[.slice (some ⟨w.heap.size,0,none⟩) 1 1] (w.alloc (.cells #[.string s] 9)) fun ev w' => ev = .returned (.agg vr) ∧ Below (w.alloc (.cells #[.string s] 9)).heap.size (w.alloc (.cells #[.string s] 9)) w'):=hid (fun w e => HSMA.out s w HS.out e)
 have HIN:=hid (HIN.out A2 c2)
 have hss:=bytes_self s
 have hse:s.toList.isEmpty = false:=by
  rw [Go.ByteArray.toList_eq,show s.data.toList = soB l3 3 from HS.out]
  cases h:soB l3 3 with
  | nil => exact absurd h HSHA.out.2.1
  | cons x r => rfl
 clear b0 b1 b20 b3 b4 b5 b6 b7 b8 b9 b10 b11 b12 b13 hpl2
 go_wp2_with fail
 refine wp_region_held_drew (S:=Gr wz) (by kernel_rfl) (Gr.refl wz).drew (fun hHeld => ?_)
 refine tk (i:=0) (v:=?v1) rfl ?y1 ?r1
 case y1 => (intro w hSw;(try dsimp only at hSw);go_simp;(try with_reducible rfl))
 try simp only [pu]
 refine tk (i:=1) (v:=?v2) rfl ?y2 ?r2
 case y2 => (intro w hSw;(try dsimp only at hSw);go_simp;(try with_reducible rfl))
 try simp only [pu]
 refine tk (i:=2) (v:=?v3) rfl ?y3 ?r3
 case y3 => (intro w hSw;(try dsimp only at hSw);go_simp;(try with_reducible rfl))
 try simp only [pu]
 refine tk (i:=3) (v:=?v4) rfl ?y4 ?r4
 case y4 => (intro w hSw;(try dsimp only at hSw);go_simp;(try with_reducible rfl))
 try simp only [pu]
 refine tk (i:=4) (v:=?v5) rfl ?y5 ?r5
 case y5 => (intro w hSw;(try dsimp only at hSw);go_simp;(try with_reducible rfl))
 try simp only [pu]
 refine tk (i:=5) (v:=?v6) rfl ?y6 ?r6
 case y6 => (intro w hSw;(try dsimp only at hSw);go_simp;(try with_reducible rfl))
 try simp only [pu]
 refine tk (i:=6) (v:=?v7) rfl ?y7 ?r7
 case y7 => (intro w hSw;(try dsimp only at hSw);go_simp;(try with_reducible rfl))
 try simp only [pu]
 refine tk (i:=7) (v:=?v8) rfl ?y8 ?r8
 case y8 => (intro w hSw;(try dsimp only at hSw);go_simp;(try with_reducible rfl))
 try simp only [pu]
 refine tk (i:=8) (v:=?v9) rfl ?y9 ?r9
 case y9 => (intro w hSw;(try dsimp only at hSw);go_simp;(try with_reducible rfl))
 try simp only [pu]
 refine tk (i:=9) (v:=?v10) rfl ?y10 ?r10
 case y10 => (intro w hSw;(try dsimp only at hSw);go_simp;(try with_reducible rfl))
 try simp only [pu]
 refine tk (i:=10) (v:=?v11) rfl ?y11 ?r11
 case y11 => (intro w hSw;(try dsimp only at hSw);go_simp;(try with_reducible rfl))
 try simp only [pu]
 refine tk (i:=11) (v:=?v12) rfl ?y12 ?r12
 case y12 => (intro w hSw;(try dsimp only at hSw);go_simp;(try with_reducible rfl))
 try simp only [pu]
 refine tk (i:=12) (v:=?v13) rfl ?y13 ?r13
 case y13 => (intro w hSw;(try dsimp only at hSw);go_simp;(try with_reducible rfl))
 try simp only [pu]
 refine tk (i:=13) (v:=?v14) rfl ?y14 ?r14
 case y14 => (intro w hSw;(try dsimp only at hSw);go_simp;(try with_reducible rfl))
 try simp only [pu]
 refine tk (i:=14) (v:=?v15) rfl ?y15 ?r15
 case y15 => (intro w hSw;(try dsimp only at hSw);go_simp;(try with_reducible rfl))
 try simp only [pu]
 refine tk (i:=15) (v:=?v16) rfl ?y16 ?r16
 case y16 => (intro w hSw;(try dsimp only at hSw);go_simp;(try with_reducible rfl))
 try simp only [pu]
 refine tk (i:=16) (v:=?v17) rfl ?y17 ?r17
 case y17 => (intro w hSw;(try dsimp only at hSw);go_simp;(try with_reducible rfl))
 try simp only [pu]
 refine tk (i:=17) (v:=?v18) rfl ?y18 ?r18
 case y18 => (intro w hSw;(try dsimp only at hSw);go_simp;(try with_reducible rfl))
 try simp only [pu]
 refine tk (i:=18) (v:=?v19) rfl ?y19 ?r19
 case y19 => (intro w hSw;(try dsimp only at hSw);go_simp;(try with_reducible rfl))
 try simp only [pu]
 refine tk (i:=19) (v:=?v20) rfl ?y20 ?r20
 case y20 => (intro w hSw;(try dsimp only at hSw);go_simp;(try with_reducible rfl))
 try simp only [pu]
 refine tk (i:=20) (v:=?v21) rfl ?y21 ?r21
 case y21 => (intro w hSw;(try dsimp only at hSw);go_simp;(try with_reducible rfl))
 try simp only [pu]
 refine tk (i:=21) (v:=?v22) rfl ?y22 ?r22
 case y22 => (intro w hSw;(try dsimp only at hSw);go_simp;(try with_reducible rfl))
 try simp only [pu]
 refine tk (i:=22) (v:=?v23) rfl ?y23 ?r23
 case y23 => (intro w hSw;(try dsimp only at hSw);go_simp;(try with_reducible rfl))
 try simp only [pu]
 refine tk (i:=23) (v:=?v24) rfl ?y24 ?r24
 case y24 => (intro w hSw;(try dsimp only at hSw);go_simp;(try with_reducible rfl))
 try simp only [pu]
 refine tk (i:=24) (v:=?v25) rfl ?y25 ?r25
 case y25 => (intro w hSw;(try dsimp only at hSw);go_simp;(try with_reducible rfl))
 try simp only [pu]
 refine tk (i:=25) (v:=?v26) rfl ?y26 ?r26
 case y26 => (intro w hSw;(try dsimp only at hSw);go_simp;(try with_reducible rfl))
 try simp only [pu]
 refine tk (i:=26) (v:=?v27) rfl ?y27 ?r27
 case y27 => (intro w hSw;(try dsimp only at hSw);go_simp;(try with_reducible rfl))
 try simp only [pu]
 refine tk (i:=27) (v:=?v28) rfl ?y28 ?r28
 case y28 => (intro w hSw;(try dsimp only at hSw);go_simp;(try with_reducible rfl))
 try simp only [pu]
 refine tk (i:=28) (v:=?v29) rfl ?y29 ?r29
 case y29 => (intro w hSw;(try dsimp only at hSw);go_simp;(try with_reducible rfl))
 try simp only [pu]
 refine tk (i:=29) (v:=?v30) rfl ?y30 ?r30
 case y30 => (intro w hSw;(try dsimp only at hSw);go_simp;(try with_reducible rfl))
 try simp only [pu]
 refine tw (i:=32) rfl (yieldsIf_load_row (by rfl) 39 _ (by rfl) w3.heap.size (by rfl) 39 vr (0,0) _ (fun w h => KR.out w h) Tryz.underlying39 rfl Ivr.out) ?_
 try simp only [pu]
 refine wpAnyH_ready (rs:=[30]) (by kernel_rfl) (by simp) ?_
 refine AllReadyH.cons (i:=30) rfl (fun K2 hK2 => ?_) AllReadyH.nil
 rw [if_pos (by rfl)]
 refine wp_buildSlice_str _ s rfl rfl ?_
 refine hK2.out _ _ (show Gr wz _ from (Gr.alloc (Gr.drew (Gr.refl _)) _)) (fun hHeld2 => ?_)
 clear hK2 K2
 try simp only [pu]
 refine wpAnyH_ready (rs:=[31]) (by kernel_rfl) (by simp) ?_
 refine AllReadyH.cons (i:=31) rfl (fun K2 hK2 => ?_) AllReadyH.nil
 go_simp
 go_at_call 40
 refine (HSM.out _ (HEZ.out.step (show Gr wz (wz.drew.alloc (.cells #[.string s] 9)) from (by repeat (first | exact Gr.refl _ | (refine Gr.step ?_ (by assumption)) | (refine Gr.alloc ?_ _) | (refine Gr.drew ?_)))))).mono ?_
 rintro ev w101 ⟨rfl,b101⟩
 try go_wp2_with fail
 refine hK2.out _ _ (show Gr wz _ from (by repeat (first | exact Gr.refl _ | (refine Gr.step ?_ (by assumption)) | (refine Gr.alloc ?_ _) | (refine Gr.drew ?_)))) (fun hHeld2 => ?_)
 clear hK2 K2
 try simp only [pu]
 refine tk (i:=33) (v:=?v32) rfl ?y32 ?r32
 case y32 => (intro w hSw;(try dsimp only at hSw);go_simp;(try with_reducible rfl))
 try simp only [pu]
 refine tk (i:=34) (v:=?v33) rfl ?y33 ?r33
 case y33 => (intro w hSw;(try dsimp only at hSw);go_simp;(try with_reducible rfl))
 try simp only [pu]
 refine tk (i:=35) (v:=?v34) rfl ?y34 ?r34
 case y34 => (intro w hSw;(try dsimp only at hSw);go_simp;(try with_reducible rfl))
 try simp only [pu]
 refine tk (i:=36) (v:=?v35) rfl ?y35 ?r35
 case y35 => (intro w hSw;(try dsimp only at hSw);go_simp;(try with_reducible rfl))
 try simp only [pu]
 refine tk (i:=37) (v:=?v36) rfl ?y36 ?r36
 case y36 => (intro w hSw;(try dsimp only at hSw);go_simp;(try with_reducible rfl))
 try simp only [pu]
 refine tk (i:=38) (v:=?v37) rfl ?y37 ?r37
 case y37 => (intro w hSw;(try dsimp only at hSw);go_simp;(try with_reducible rfl))
 try simp only [pu]
 refine tk (i:=39) (v:=?v38) rfl ?y38 ?r38
 case y38 => (intro w hSw;(try dsimp only at hSw);go_simp;(try with_reducible rfl))
 try simp only [pu]
 refine tk (i:=40) (v:=?v39) rfl ?y39 ?r39
 case y39 => (intro w hSw;(try dsimp only at hSw);go_simp;(try with_reducible rfl))
 try simp only [pu]
 refine tk (i:=41) (v:=?v40) rfl ?y40 ?r40
 case y40 => (intro w hSw;(try dsimp only at hSw);go_simp;(try with_reducible rfl))
 try simp only [pu]
 refine tk (i:=42) (v:=?v41) rfl ?y41 ?r41
 case y41 => (intro w hSw;(try dsimp only at hSw);go_simp;(try with_reducible rfl))
 try simp only [pu]
 refine tk (i:=43) (v:=?v42) rfl ?y42 ?r42
 case y42 => (intro w hSw;(try dsimp only at hSw);go_simp;(try with_reducible rfl))
 try simp only [pu]
 refine tk (i:=45) (v:=?v43) rfl ?y43 ?r43
 case y43 => (intro w hSw;(try dsimp only at hSw);go_simp;(try with_reducible rfl))
 try simp only [pu]
 refine tw (i:=46) rfl (yieldsIf_load_row (by rfl) 39 _ (by rfl) w3.heap.size (by rfl) 39 vr (0,0) _ (fun w h => KR.out w h) Tryz.underlying39 rfl Ivr.out) ?_
 try simp only [pu]
 refine wpAnyH_ready (rs:=[44]) (by kernel_rfl) (by simp) ?_
 refine AllReadyH.cons (i:=44) rfl (fun K2 hK2 => ?_) AllReadyH.nil
 go_simp
 go_at_call 22
 refine (HLF.out w101 (HEZ.out.step (show Gr wz w101 from (by repeat (first | exact Gr.refl _ | (refine Gr.step ?_ (by assumption)) | (refine Gr.alloc ?_ _) | (refine Gr.drew ?_)))))).mono ?_
 rintro ev w102 ⟨rfl,b102⟩
 try go_wp2_with fail
 refine hK2.out _ _ (show Gr wz _ from (by repeat (first | exact Gr.refl _ | (refine Gr.step ?_ (by assumption)) | (refine Gr.alloc ?_ _) | (refine Gr.drew ?_)))) (fun hHeld2 => ?_)
 clear hK2 K2
 try simp only [pu]
 refine wpAnyH_ready (rs:=[47]) (by kernel_rfl) (by simp) ?_
 refine AllReadyH.cons (i:=47) rfl (fun K2 hK2 => ?_) AllReadyH.nil
 go_simp
 go_at_call 21
 refine (HIN.out w102 (HEZ.out.step (show Gr wz w102 from (by repeat (first | exact Gr.refl _ | (refine Gr.step ?_ (by assumption)) | (refine Gr.alloc ?_ _) | (refine Gr.drew ?_))))) (HPZ.out.below (show Gr wz w102 from (by repeat (first | exact Gr.refl _ | (refine Gr.step ?_ (by assumption)) | (refine Gr.alloc ?_ _) | (refine Gr.drew ?_)))))).mono ?_
 rintro ev w103 ⟨rfl,b103⟩
 try go_wp2_with fail
 refine hK2.out _ _ (show Gr wz _ from (by repeat (first | exact Gr.refl _ | (refine Gr.step ?_ (by assumption)) | (refine Gr.alloc ?_ _) | (refine Gr.drew ?_)))) (fun hHeld2 => ?_)
 clear hK2 K2
 try simp only [pu]
 refine tk (i:=48) (v:=?v45) rfl ?y45 ?r45
 case y45 => (intro w hSw;(try dsimp only at hSw);go_simp;(try with_reducible rfl))
 try simp only [pu]
 refine tk (i:=49) (v:=?v46) rfl ?y46 ?r46
 case y46 => (intro w hSw;(try dsimp only at hSw);go_simp;(try with_reducible rfl))
 try simp only [pu]
 refine tk (i:=50) (v:=?v47) rfl ?y47 ?r47
 case y47 => (intro w hSw;(try dsimp only at hSw);go_simp;(try with_reducible rfl))
 try simp only [pu]
 refine tw (i:=52) rfl (yieldsIf_load_row (by rfl) 39 _ (by rfl) w3.heap.size (by rfl) 39 vr (0,0) _ (fun w h => KR.out w h) Tryz.underlying39 rfl Ivr.out) ?_
 try simp only [pu]
 refine wpAnyH_ready (rs:=[51]) (by kernel_rfl) (by simp) ?_
 refine AllReadyH.cons (i:=51) rfl (fun K2 hK2 => ?_) AllReadyH.nil
 go_simp
 go_at_call 22
 refine (HLF.out w103 (HEZ.out.step (show Gr wz w103 from (by repeat (first | exact Gr.refl _ | (refine Gr.step ?_ (by assumption)) | (refine Gr.alloc ?_ _) | (refine Gr.drew ?_)))))).mono ?_
 rintro ev w104 ⟨rfl,b104⟩
 try go_wp2_with fail
 refine hK2.out _ _ (show Gr wz _ from (by repeat (first | exact Gr.refl _ | (refine Gr.step ?_ (by assumption)) | (refine Gr.alloc ?_ _) | (refine Gr.drew ?_)))) (fun hHeld2 => ?_)
 clear hK2 K2
 try simp only [pu]
 refine wpAnyH_ready (rs:=[53]) (by kernel_rfl) (by simp) ?_
 refine AllReadyH.cons (i:=53) rfl (fun K2 hK2 => ?_) AllReadyH.nil
 go_simp
 go_at_call 21
 refine (HIS.out w104 (HEZ.out.step (show Gr wz w104 from (by repeat (first | exact Gr.refl _ | (refine Gr.step ?_ (by assumption)) | (refine Gr.alloc ?_ _) | (refine Gr.drew ?_)))))).mono ?_
 rintro ev w105 ⟨rfl,b105⟩
 try go_wp2_with fail
 refine hK2.out _ _ (show Gr wz _ from (by repeat (first | exact Gr.refl _ | (refine Gr.step ?_ (by assumption)) | (refine Gr.alloc ?_ _) | (refine Gr.drew ?_)))) (fun hHeld2 => ?_)
 clear hK2 K2
 try simp only [pu]
 refine wpAnyH_ready (rs:=[54]) (by kernel_rfl) (by simp) ?_
 refine AllReadyH.cons (i:=54) rfl (fun K2 hK2 => ?_) AllReadyH.nil
 go_simp
 go_at_call 41
 refine (HI10.out w105 (HEZ.out.step (show Gr wz w105 from (by repeat (first | exact Gr.refl _ | (refine Gr.step ?_ (by assumption)) | (refine Gr.alloc ?_ _) | (refine Gr.drew ?_)))))).mono ?_
 rintro ev w106 ⟨rfl,b106⟩
 try go_wp2_with fail
 refine hK2.out _ _ (show Gr wz _ from (by repeat (first | exact Gr.refl _ | (refine Gr.step ?_ (by assumption)) | (refine Gr.alloc ?_ _) | (refine Gr.drew ?_)))) (fun hHeld2 => ?_)
 clear hK2 K2
 try simp only [pu]
 refine tk (i:=55) (v:=?v49) rfl ?y49 ?r49
 case y49 => (intro w hSw;(try dsimp only at hSw);go_simp;(try with_reducible rfl))
 try simp only [pu]
 refine tk (i:=56) (v:=?v50) rfl ?y50 ?r50
 case y50 => (intro w hSw;(try dsimp only at hSw);go_simp;(try with_reducible rfl))
 try simp only [pu]
 refine wpAnyH_done (by kernel_rfl) ?_ _
 go_wp2
 go_ret
 exact ⟨rfl,HBZ.out.trans (Below.mono (show Gr wz w106 from (by repeat (first | exact Gr.refl _ | (refine Gr.step ?_ (by assumption)) | (refine Gr.alloc ?_ _) | (refine Gr.drew ?_)))) HBZ.out.size)⟩
/- Small contracts behind the laws of layer 8. No condition. -/
end Go.Proofs.YtpdkpdpkggepcaaGreatDoor
