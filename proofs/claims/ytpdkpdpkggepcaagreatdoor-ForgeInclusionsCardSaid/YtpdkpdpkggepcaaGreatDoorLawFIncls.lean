import Derived.Test.YtpdkpdpkggepcaaGreatDoorMem
import Derived.Test.YtpdkpdpkggepcaaGreatDoorForgeIncl
import Derived.Test.YtpdkpdpkggepcaaGreatDoorRef20d
import Derived.Test.YtpdkpdpkggepcaaGreatDoorRefTops
import Derived.Test.YtpdkpdpkggepcaaGreatDoorForgeLives
/- What the references of layers 18 and 20 reckon, against what the claim says. Plain. -/
namespace Go.Proofs.YtpdkpdpkggepcaaGreatDoor
open Go.ChangeShapes Go.WideShapes Go.ChangeAt Go.RowKit
set_option linter.unusedVariables false
theorem say_fold (said : Int × Int → Option (List UInt8)) (lf : List UInt8) : ∀ (f : Nat) (ix b e : Int) (P : List (List UInt8)), b ≤ ix → ix < e → e - b ≤ pow2 f → f ≤ 64 → P.length = (pathL f ix b e).length →
    (∀ p:Int × Int,b ≤ p.1 → p.1 < p.2 → p.2 ≤ e → said p = saidL ((pathL f ix b e).zip P) p) → fSays said (fun _ => lf) f b e = sayP lf f ix b e P
  | 0,ix,b,e,P,h1,h2,hp,h64,hl,hs => by
    rw [pow2_zero] at hp
    have hsb:=hs (b,e) (by simp) (by simp;omega) (by simp)
    obtain rfl:P = []:=by simpa [pathL] using hl
    have hq:said (b,e) = none:=by rw [hsb];rfl
    rw [fSays,hq];rfl
  | f+1,ix,b,e,P,h1,h2,hp,h64,hl,hs => by
    have hsb:=hs (b,e) (by simp) (by simp;omega) (by simp)
    by_cases h3:e - b < 2
    · have e0:pathL (f+1) ix b e = []:=by rw [pathL,if_pos h3]
      rw [e0] at hl hsb
      obtain rfl:P = []:=by simpa using hl
      have hq:said (b,e) = none:=by rw [hsb];rfl
      rw [fSays,hq,sayP,if_pos h3]
      simp only [if_pos h3]
    · have hb:=blwI_bd (n:=e - b) (by omega)
      have hk:=blwI_le_pow (n:=e - b) (f:=f) (by omega) hp
      have hps:=pow2_succ f
      rw [sayP,if_neg h3]
      obtain ⟨k,hk'⟩:∃ k,blwI (e - b) = k:=⟨_,rfl⟩
      rw [hk'] at hb hk ⊢
      by_cases hx:ix < b+k
      · have ep:pathL (f+1) ix b e = pathL f ix b (b+k) ++ [(b+k,e)]:=by rw [pathL,if_neg h3,hk',if_pos hx]
        rw [ep,List.length_append] at hl
        obtain ⟨P',q,rfl,hl'⟩:=snoc_of (n:=(pathL f ix b (b+k)).length) hl
        have hz:(pathL (f+1) ix b e).zip (P' ++ [q]) = (pathL f ix b (b+k)).zip P' ++ [((b+k,e),q)]:=by
          rw [ep,List.zip_append hl'.symm];rfl
        have inA:∀ s ∈ pathL f ix b (b+k),b ≤ s.1 ∧ s.1 < s.2 ∧ s.2 ≤ b+k:=fun s h => by
          have:=pathL_in f ix b (b+k) s h1 hx (by omega) h;omega
        have hq:said (b,e) = none:=by
          rw [hsb,hz,saidL_snoc,if_neg (by simp;omega)]
          exact zip_ne (fun s h e' => by have:=inA s h;rw [e'] at this;simp at this;omega)
        have hr:said (b+k,e) = some q:=by
          rw [hs (b+k,e) (by simp;omega) (by simp;omega) (by simp),hz,saidL_snoc,if_pos rfl]
        have ih:=say_fold said lf f ix b (b+k) P' h1 hx (by omega) (by omega) hl' (fun p p1 p2 p3 => by
          rw [hs p p1 p2 (by omega),hz,saidL_snoc,if_neg (fun e' => by rw [← e'] at p3;simp at p3;omega)])
        rw [if_pos hx,List.dropLast_concat,last_snoc,fSays,hq]
        simp only [if_neg h3,hk']
        rw [fSays_said (f:=f) (lv:=fun _ => lf) hr,ih]
      · have ep:pathL (f+1) ix b e = pathL f ix (b+k) e ++ [(b,b+k)]:=by rw [pathL,if_neg h3,hk',if_neg hx]
        rw [ep,List.length_append] at hl
        obtain ⟨P',q,rfl,hl'⟩:=snoc_of (n:=(pathL f ix (b+k) e).length) hl
        have hz:(pathL (f+1) ix b e).zip (P' ++ [q]) = (pathL f ix (b+k) e).zip P' ++ [((b,b+k),q)]:=by
          rw [ep,List.zip_append hl'.symm];rfl
        have inA:∀ s ∈ pathL f ix (b+k) e,b+k ≤ s.1 ∧ s.1 < s.2 ∧ s.2 ≤ e:=fun s h => by
          have:=pathL_in f ix (b+k) e s (by omega) h2 (by omega) h;omega
        have hq:said (b,e) = none:=by
          rw [hsb,hz,saidL_snoc,if_neg (by simp;omega)]
          exact zip_ne (fun s h e' => by have:=inA s h;rw [e'] at this;simp at this;omega)
        have hr:said (b,b+k) = some q:=by
          rw [hs (b,b+k) (by simp) (by simp;omega) (by simp;omega),hz,saidL_snoc,if_pos rfl]
        have ih:=say_fold said lf f ix (b+k) e P' (by omega) h2 (by omega) (by omega) hl' (fun p p1 p2 p3 => by
          rw [hs p (by omega) p2 p3,hz,saidL_snoc,if_neg (fun e' => by rw [← e'] at p1;simp at p1;omega)])
        rw [if_neg hx,List.dropLast_concat,last_snoc,fSays,hq]
        simp only [if_neg h3,hk']
        rw [fSays_said (f:=f) (lv:=fun _ => lf) hr,ih]
theorem path_bare (ix sz:Nat) (P:List (List UInt8)) (h1:ix < sz) (h2:sz ≤ 9223372036854775808) (hl:P.length = (pathL 64 ix 0 sz).length):∀ i,fBare (saidL ((pathL 64 ix 0 sz).zip P)) 64 0 sz i → i = ix:=fun i hi =>
  ((path_fold (saidL ((pathL 64 ix 0 sz).zip P)) (fun _ => []) 64 ix 0 sz P (by omega) (by omega) (by rw [pow2_64];omega) (by omega) hl (fun p _ _ _ => rfl)).2 i).1 hi
theorem pathR_say {ix sz:Nat} (lf:List UInt8) {P:List (List UInt8)} (h1:ix < sz) (h2:sz ≤ 9223372036854775808) (hl:P.length = (pathL 64 ix 0 sz).length):pathR ix sz lf P = sayP lf 64 ix 0 sz P :=
  say_fold (saidL ((pathL 64 ix 0 sz).zip P)) lf 64 ix 0 sz P (by omega) (by omega) (by rw [pow2_64];omega) (by omega) hl (fun p _ _ _ => rfl)
theorem first_said:∀ {m:List ((Int × Int) × List UInt8)},(m.map (·.1)).Nodup → ∀ p,firstL m p = saidL m p
  | [],_,p => rfl
  | x :: r,h,p => by
    rw [List.map_cons,List.nodup_cons] at h
    rw [firstL,saidL,first_said h.2 p]
    by_cases q:x.1 = p
    · rw [if_pos q,if_pos q,saidL_none r p (fun y hy e => h.1 (List.mem_map.2 ⟨y,hy,by rw [e,q]⟩))]
    · rw [if_neg q,if_neg q];cases saidL r p <;> rfl
theorem nodup_snoc {α:Type} {l:List α} {x:α} (h:l.Nodup) (hx:x ∉ l):(l ++ [x]).Nodup:=by
  rw [List.nodup_append];exact ⟨h,by simp,fun a ha b hb => by simp at hb;subst hb;exact fun e => hx (e ▸ ha)⟩
theorem path_nodup:∀ (f:Nat) (ix b e:Int),b ≤ ix → ix < e → e - b ≤ pow2 f → (pathL f ix b e).Nodup
  | 0,ix,b,e,_,_,_ => by rw [pathL];simp
  | f+1,ix,b,e,h1,h2,hp => by
    rw [pathL]
    by_cases h3:e - b < 2
    · rw [if_pos h3];simp
    · have hb:=blwI_bd (n:=e - b) (by omega)
      have hk:=blwI_le_pow (n:=e - b) (f:=f) (by omega) hp
      have hps:=pow2_succ f
      rw [if_neg h3]
      split
      · rename_i hx
        exact nodup_snoc (path_nodup f ix b _ h1 hx (by omega)) (fun hm => by have:=pathL_in f ix b _ _ h1 hx (by omega) hm;simp at this;omega)
      · rename_i hx
        exact nodup_snoc (path_nodup f ix _ e (by omega) h2 (by omega)) (fun hm => by have:=pathL_in f ix _ e _ (by omega) h2 (by omega) hm;simp at this;omega)
theorem proof_nodup:∀ (f:Nat) (old b e:Int),b < old → old ≤ e → e - b ≤ pow2 f → (proofL f old b e).Nodup
  | 0,old,b,e,_,_,_ => by rw [proofL];split <;> (try split) <;> simp
  | f+1,old,b,e,h1,h2,hp => by
    rw [proofL]
    by_cases h3:e = old
    · rw [if_pos h3];split <;> simp
    · have hb:=blwI_bd (n:=e - b) (by omega)
      have hk:=blwI_le_pow (n:=e - b) (f:=f) (by omega) hp
      have hps:=pow2_succ f
      rw [if_neg h3]
      split
      · rename_i hx
        exact nodup_snoc (proof_nodup f old b _ h1 hx (by omega)) (fun hm => by have:=proofL_in f old b _ _ h1 hx (by omega) hm;simp at this;omega)
      · rename_i hx
        exact nodup_snoc (proof_nodup f old _ e (by omega) h2 (by omega)) (fun hm => by have:=proofL_in f old _ e _ (by omega) h2 (by omega) hm;simp at this;omega)
theorem batch_nodup:∀ (f:Nat) (x y b e:Int),b < e → e - b ≤ pow2 f → (batchL f x y b e).Nodup
  | 0,x,y,b,e,h0,hp => by
    rw [pow2_zero] at hp
    by_cases ho:e ≤ x ∨ y ≤ b
    · rw [batchL_out ho];simp
    · rw [batchL_in ho (by omega)];simp
  | f+1,x,y,b,e,h0,hp => by
    by_cases ho:e ≤ x ∨ y ≤ b
    · rw [batchL_out ho];simp
    · by_cases h2:e - b < 2
      · rw [batchL_in ho (by omega)];simp
      · have hb:=blwI_bd (n:=e - b) (by omega)
        have hk:=blwI_le_pow (n:=e - b) (f:=f) (by omega) hp
        have hps:=pow2_succ f
        rw [batchL_two' ho h2,List.nodup_append]
        refine ⟨batch_nodup f x y b _ (by omega) (by omega),batch_nodup f x y _ e (by omega) (by omega),fun s hs t ht e' => ?_⟩
        have p1:=batchL_span f x y b _ s (by omega) (by omega) hs
        have p2:=batchL_span f x y _ e t (by omega) (by omega) ht
        rw [e'] at p1;omega
theorem zip_keys:∀ {α β:Type} {l:List α} {P:List β},P.length = l.length → (l.zip P).map (·.1) = l
  | _,_,[],[],_ => rfl
  | _,_,[],y :: r,h => by simp at h
  | _,_,x :: l,[],h => by simp at h
  | _,_,x :: l,y :: r,h => by rw [List.zip_cons_cons,List.map_cons,zip_keys (by simpa using h)]
theorem zip_first {l:List (Int × Int)} {P:List (List UInt8)} (hl:P.length = l.length) (hn:l.Nodup) (p:Int × Int):firstL (l.zip P) p = saidL (l.zip P) p :=
  first_said (by rw [zip_keys hl];exact hn) p
end Go.Proofs.YtpdkpdpkggepcaaGreatDoor

/- cartularyref20.so, Inclusion: the two texts, or none. No condition. -/
namespace Go.Proofs.YtpdkpdpkggepcaaGreatDoor
open Go.ChangeShapes Go.WideShapes Go.ChangeAt Go.RowKit
set_option linter.unusedVariables false
theorem wpList_build_str20 {ops : Array Oper} {rest : List Oper} {o : Oper} {a : Act} {w : World} {Q : Exit → Act → World → Prop} (hw : Region.wanted o (yielded ops a.tmps) = true) (x : Operand) (s : ByteArray) (ho : o.op = .buildSlice 22 1 #[(0, x)]) (hx : a.eval x = .string s)
    (h:wpList Tryz.prog ops Q rest (a.put o.dst (.slice (some ⟨w.heap.size,0,none⟩) 1 1)) (w.alloc (.cells #[.string s] 9))):wpList Tryz.prog ops Q (o :: rest) a w :=
  wpList_step fun _ hK => by
    rw [if_pos hw]
    exact wp_buildSlice_str x s ho hx (hK _ _ h)
theorem giv_tail (v0 v1 v2 v3 v4 v5:Value) (j:Nat) (u:Value) (hu:(bytesV zeroH)[j]? = some u):(#[v0,v1,v2,v3,v4,v5,.int .u8 0,.int .u8 0,.int .u8 0,.int .u8 0,.int .u8 0,.int .u8 0,.int .u8 0,.int .u8 0,.int .u8 0,.int .u8 0,.int .u8 0,.int .u8 0,.int .u8 0,.int .u8 0,.int .u8 0,.int .u8 0,.int .u8 0,.int .u8 0,.int .u8 0,.int .u8 0,.int .u8 0,.int .u8 0,.int .u8 0,.int .u8 0,.int .u8 0,.int .u8 0,.int .u8 0,.int .u8 0,.int .u8 0,.int .u8 0,.int .u8 0,.int .u8 0]:Array Value)[6+j]? = some u:=by
  have e:(#[v0,v1,v2,v3,v4,v5,.int .u8 0,.int .u8 0,.int .u8 0,.int .u8 0,.int .u8 0,.int .u8 0,.int .u8 0,.int .u8 0,.int .u8 0,.int .u8 0,.int .u8 0,.int .u8 0,.int .u8 0,.int .u8 0,.int .u8 0,.int .u8 0,.int .u8 0,.int .u8 0,.int .u8 0,.int .u8 0,.int .u8 0,.int .u8 0,.int .u8 0,.int .u8 0,.int .u8 0,.int .u8 0,.int .u8 0,.int .u8 0,.int .u8 0,.int .u8 0,.int .u8 0,.int .u8 0]:Array Value) = ([v0,v1,v2,v3,v4,v5] ++ bytesV zeroH).toArray:=by kernel_rfl
  rw [e]
  simp only [List.getElem?_toArray]
  rw [List.getElem?_append_right (by simp),show 6+j - [v0,v1,v2,v3,v4,v5].length = j by simp]
  exact hu
theorem field_code (x z:Value) (w:World):(Instr.field 52 (.agg #[x,z]) 0).run Tryz.prog w = .ok x w:=by kernel_rfl
theorem inc_zero (ix sz:Nat) (L:List ByteArray) (d:ByteArray) (P:List (List UInt8)) (h:sz ≤ 9223372036854775808):incK ix sz (leafH d) (treeB L 0 sz) P = 0 ↔ ix < sz ∧ verP ix sz L d P:=by
  unfold incK verP
  by_cases h1:(sz:Int) ≤ ix
  · rw [if_pos h1]
    exact ⟨fun q => (by cases q),fun q => by omega⟩
  · rw [if_neg h1]
    by_cases h2:P.length = (pathL 64 ix 0 sz).length
    · rw [if_neg (by simpa using h2),pathR_say (leafH d) (by omega) h h2]
      by_cases h3:sayP (leafH d) 64 ix 0 sz P = treeB L 0 sz
      · rw [if_pos h3];exact ⟨fun _ => ⟨by omega,h2,h3⟩,fun _ => rfl⟩
      · rw [if_neg h3];exact ⟨fun q => (by cases q),fun q => absurd q.2.2 h3⟩
    · rw [if_pos h2]
      exact ⟨fun q => (by cases q),fun q => absurd q.2.1 h2⟩

set_option maxRecDepth 100000 in
set_option maxHeartbeats 8000000 in
theorem so20_any (base b2 : Nat) (v : Value) (L : List ByteArray) (sz : Nat) (w : World) (h : RLogAt base b2 v L w) (h0 : 0 < sz) (h1 : sz ≤ L.length) :
    Calls Tryz.prog 31 #[.pointer (some ⟨b2,0,none⟩),.int .u64 sz] w fun ev w' => ev = .returned (.tuple #[.string (strOf (soB L sz)),.string (strOf (soB L sz)),.bool false]) ∧ Below w.heap.size w w':=by
  have hL:=h.1.1
  obtain ⟨wv,hwv⟩:∃ y,w.alloc (.cells #[.pointer (some ⟨b2,0,none⟩),.slice none 0 0,.slice none 0 0,.int .u64 0,.slice none 0 0,.int .u64 0,.int .u8 0,.int .u8 0,.int .u8 0,.int .u8 0,.int .u8 0,.int .u8 0,.int .u8 0,.int .u8 0,.int .u8 0,.int .u8 0,.int .u8 0,.int .u8 0,.int .u8 0,.int .u8 0,.int .u8 0,.int .u8 0,.int .u8 0,.int .u8 0,.int .u8 0,.int .u8 0,.int .u8 0,.int .u8 0,.int .u8 0,.int .u8 0,.int .u8 0,.int .u8 0,.int .u8 0,.int .u8 0,.int .u8 0,.int .u8 0,.int .u8 0,.int .u8 0] 81) = y:=⟨_,rfl⟩
  have HB:Hid (Below w.heap.size w wv):=Lib.hid (by rw [← hwv];exact (Below.refl _ _).alloc (Nat.le_refl _) _)
  have RG:Hid (wv.heap[w.heap.size]? = some (.cells #[.pointer (some ⟨b2,0,none⟩),.slice none 0 0,.slice none 0 0,.int .u64 0,.slice none 0 0,.int .u64 0,.int .u8 0,.int .u8 0,.int .u8 0,.int .u8 0,.int .u8 0,.int .u8 0,.int .u8 0,.int .u8 0,.int .u8 0,.int .u8 0,.int .u8 0,.int .u8 0,.int .u8 0,.int .u8 0,.int .u8 0,.int .u8 0,.int .u8 0,.int .u8 0,.int .u8 0,.int .u8 0,.int .u8 0,.int .u8 0,.int .u8 0,.int .u8 0,.int .u8 0,.int .u8 0,.int .u8 0,.int .u8 0,.int .u8 0,.int .u8 0,.int .u8 0,.int .u8 0] 81 (0,0))):=Lib.hid (by rw [← hwv];exact heap_at _ _ _ rfl)
  have HWV:=Lib.hid hwv
  have HR:=Lib.hid h
  obtain ⟨y,hy⟩:∃ y,L[0]? = some y:=⟨_,List.getElem?_eq_getElem (by omega)⟩
  have hys:=h.1.2 y (List.mem_of_getElem? hy)
  have HTX:=Lib.hid (fun w' => lt_text y w' (by omega))
  have hv':=h.below HB.out
  obtain ⟨AL,capL,rfl,_⟩:=own_shape h.2.2.2.1
  obtain ⟨_,hsin,_⟩:=rlog_sin hv'
  obtain ⟨gL,oL,qL,hcL,hgL,_⟩:=hsin.at hy
  subst qL
  rw [Nat.add_zero] at hcL
  have c0:=hv'.c0
  obtain ⟨N,hN⟩:∃ N:Nat,L.length = N:=⟨_,rfl⟩
  rw [hN] at c0 h1 hL
  have hz0:((sz:Int) == 0) = false:=by simp;omega
  have n0:(0:Int) < N:=by omega
  have n1:0 < N:=by omega
  obtain ⟨res,hres⟩:∃ r,strOf (soB L sz) = r:=⟨_,rfl⟩
  rw [hres]
  have HRES:=Lib.hid hres
  have HY:=Lib.hid hy
  have HN:=Lib.hid (And.intro hN h1)
  clear hres hy hv' hsin h hwv
  by_cases h2:2 ≤ sz
  · have hb:=blwI_bd (n:=(sz:Int)) (by omega)
    obtain ⟨k,hk⟩:∃ k:Nat,blwI (sz:Int) = k:=⟨(blwI (sz:Int)).toNat,by omega⟩
    have HSO:Hid (soB L sz = 1 :: (treeB L 0 k ++ treeB L k sz)):=Lib.hid (by unfold soB;rw [if_neg (by omega),hk])
    obtain ⟨va,eva,HVA,Zva,Iva,Ova⟩:=span_row 0 k
    obtain ⟨vb,evb,HVB,Zvb,Ivb,Ovb⟩:=span_row k sz
    have HHALF:Hid (∀ w',Calls Tryz.prog 64 #[.agg #[.int .u64 0,.int .u64 sz]] w' fun ev w2 => ev = .returned (.tuple #[.agg va,.agg vb]) ∧ Below w'.heap.size w' w2):=Lib.hid (fun w' => by
      have:=halves20_any 0 sz w' (by omega) (by omega) (by omega)
      rw [Int.sub_zero,Int.zero_add,hk,eva,evb] at this;exact this)
    obtain ⟨vp,evp,Hvp,Zvp,Ivp,Ovp⟩:=row_of (treeB L 0 k) (treeB_len _ _ _)
    obtain ⟨vr,evr,Hvr,Zvr,Ivr,Ovr⟩:=row_of (treeB L k sz) (treeB_len _ _ _)
    have cg:∀ w',Below wv.heap.size wv w' → w'.cell? ⟨w.heap.size,0,none⟩ = some (.pointer (some ⟨b2,0,none⟩)):=fun w' hb => by
      rw [cell_of_row w' w.heap.size 0 _ 81 (0,0) ((hb.block _ (Array.getElem?_eq_some_iff.1 RG.out).1).trans RG.out)];rfl
    have HT1:Hid (∀ w',Below wv.heap.size wv w' → Calls Tryz.prog 66 #[.pointer (some ⟨w.heap.size,0,none⟩),.agg va] w' fun ev w2 => ev = .returned (.agg vp) ∧ Below w'.heap.size w' w2):=Lib.hid (fun w' hw => by
      have:=tree20_any base b2 w.heap.size _ L 0 k w' (HR.out.below (HB.out.trans (hw.mono HB.out.size))) (cg w' hw) (by omega) (by rw [HN.out.1];omega)
      rw [show ((0:Nat):Int) = 0 from rfl,eva,evp] at this;exact this)
    have HT2:Hid (∀ w',Below wv.heap.size wv w' → Calls Tryz.prog 66 #[.pointer (some ⟨w.heap.size,0,none⟩),.agg vb] w' fun ev w2 => ev = .returned (.agg vr) ∧ Below w'.heap.size w' w2):=Lib.hid (fun w' hw => by
      have:=tree20_any base b2 w.heap.size _ L k sz w' (HR.out.below (HB.out.trans (hw.mono HB.out.size))) (cg w' hw) (by omega) (by rw [HN.out.1];omega)
      rw [evb,evr] at this;exact this)
    have HN1:Hid (∀ w',Calls Tryz.prog 65 #[.agg vp,.agg vr] w' fun ev w2 => ev = .returned (.string res) ∧ Below w'.heap.size w' w2):=Lib.hid (fun w' => by
      have:=nt_text (treeB L 0 k) (treeB L k sz) w' (treeB_len _ _ _) (treeB_len _ _ _)
      rw [evp,evr,← HSO.out,HRES.out] at this;exact this)
    have hgt:decide ((1:Int) < (sz:Int)) = true:=by simp;omega
    have hgt2:(1:Int) < (sz:Int):=by omega
    have hgt3:1 < sz:=by omega
    clear hb hk eva evb evp evr cg hN h1
    go_enter Tryz.func31,Tryz.ntmps31
    go_upto_region 4 with fail
    rw [HWV.out]
    go_wp2_with fail
    refine (HTX.out wv).mono ?_
    rintro ev w1 ⟨rfl,b1⟩
    have B1:=Lib.hid b1
    clear b1
    go_wp2_with fail
    refine (HHALF.out w1).mono ?_
    rintro ev w5 ⟨rfl,b5⟩
    have B5:=Lib.hid b5
    clear b5
    go_upto_region 7 with (first
      | (refine wpList_store_row_any rfl 84 _ _ rfl w5.heap.size va rfl rfl 84 _ ((((Below.refl _ (w5.alloc _)).alloc (Nat.le_refl _) _).block _ (by simp)).trans (heap_at _ _ _ rfl)) Iva.out (by rw [Zva.out];rfl) Ova.out ?_;intro w6 hbA hgA hsA;have BA:=Lib.hid hbA;have GA:=Lib.hid hgA;have SA:Hid (w6.heap.size = w5.heap.size+1+1):=Lib.hid (hsA.trans (by simp));clear hbA hgA hsA)
      | (refine wpList_store_row_any rfl 84 _ _ rfl (w5.heap.size+1) vb rfl rfl 84 _ ((BA.out.same _ (by simp) (by omega)).trans (heap_at _ _ _ (by simp))) Ivb.out (by rw [Zvb.out];rfl) Ovb.out ?_;intro wy hbB hgB hsB;have BC:=Lib.hid hbB;have RBy:=Lib.hid hgB;have SB:Hid (wy.heap.size = w5.heap.size+1+1):=Lib.hid (hsB.trans SA.out);clear hbB hgB hsB))
    have B5Y:Hid (Below w5.heap.size w5 wy):=Lib.hid ((((Below.refl _ _).alloc (Nat.le_refl _) _).alloc (by simp) _).trans (((BA.out.mono (T:=fun k => k = w5.heap.size ∨ k = w5.heap.size+1) (fun _ _ q => .inl q)).step BC.out (fun _ _ q => .inr q)).to_below (by simp;omega) (fun k hk q => by omega)))
    have RAy:Hid (wy.heap[w5.heap.size]? = some (.cells va 84 (0,0))):=Lib.hid ((BC.out.same _ (by have:=SA.out;omega) (by omega)).trans GA.out)
    have BVY:Hid (Below wv.heap.size wv wy):=Lib.hid (B1.out.trans ((B5.out.trans (B5Y.out.mono B5.out.size)).mono B1.out.size))
    refine wp_region_held_drew (S:=But (fun _ => False) wy) (by kernel_rfl) (But.refl _ _).drew (fun hHeld => ?_)
    refine tk (i:=0) (v:=?v1) rfl ?y1 ?r1
    case y1 => (intro w hSw;(try dsimp only at hSw);go_simp;(try with_reducible rfl))
    try simp only [pu]
    refine tw (i:=1) rfl (yieldsIf_load_row (by rfl) 84 _ (by rfl) w5.heap.size (by rfl) 84 va (0,0) _ (fun w h => (But.same h _ (by have:=(Array.getElem?_eq_some_iff.1 RAy.out).1;exact this) (fun q => q)).trans RAy.out) Tryz.underlying84 rfl Iva.out) ?_
    try simp only [pu]
    refine tk (i:=3) (v:=?v3) rfl ?y3 ?r3
    case y3 => (intro w hSw;(try dsimp only at hSw);go_simp;(try with_reducible rfl))
    try simp only [pu]
    refine tw (i:=4) rfl (yieldsIf_load_row (by rfl) 84 _ (by rfl) (w5.heap.size+1) (by rfl) 84 vb (0,0) _ (fun w h => (But.same h _ (by have:=(Array.getElem?_eq_some_iff.1 RBy.out).1;exact this) (fun q => q)).trans RBy.out) Tryz.underlying84 rfl Ivb.out) ?_
    try simp only [pu]
    refine wpAnyH_ready (rs:=[2]) (by kernel_rfl) (by simp) ?_
    refine AllReadyH.cons (i:=2) rfl (fun K2 hK2 => ?_) AllReadyH.nil
    go_simp
    go_at_call 66
    refine (HT1.out wy.drew (BVY.out.trans (But.to_below ((But.refl (fun _ => False) wy).drew) BVY.out.size (fun _ _ q => q)))).mono ?_
    rintro ev w701 ⟨rfl,bw701⟩
    try go_wp2_with fail
    have Kw701:Hid (But (fun _ => False) wy w701):=Lib.hid (((But.refl (fun _ => False) wy).drew).below bw701)
    clear bw701
    refine hK2.out _ _ Kw701.out (fun hHeld2 => ?_)
    clear hK2 K2
    try simp only [pu]
    refine wpAnyH_ready (rs:=[5]) (by kernel_rfl) (by simp) ?_
    refine AllReadyH.cons (i:=5) rfl (fun K2 hK2 => ?_) AllReadyH.nil
    go_simp
    go_at_call 66
    refine (HT2.out w701 (BVY.out.trans (But.to_below Kw701.out BVY.out.size (fun _ _ q => q)))).mono ?_
    rintro ev w702 ⟨rfl,bw702⟩
    try go_wp2_with fail
    have Kw702:Hid (But (fun _ => False) wy w702):=Lib.hid (Kw701.out.below bw702)
    clear bw702
    refine hK2.out _ _ Kw702.out (fun hHeld2 => ?_)
    clear hK2 K2
    try simp only [pu]
    refine wpAnyH_ready (rs:=[6]) (by kernel_rfl) (by simp) ?_
    refine AllReadyH.cons (i:=6) rfl (fun K2 hK2 => ?_) AllReadyH.nil
    go_simp
    go_at_call 65
    refine (HN1.out w702).mono ?_
    rintro ev w703 ⟨rfl,bw703⟩
    try go_wp2_with fail
    have Kw703:Hid (But (fun _ => False) wy w703):=Lib.hid (Kw702.out.below bw703)
    clear bw703
    refine hK2.out _ _ Kw703.out (fun hHeld2 => ?_)
    clear hK2 K2
    try simp only [pu]
    refine tk (i:=7) (v:=?v5) rfl ?y5 ?r5
    case y5 => (intro w hSw;(try dsimp only at hSw);go_simp;(try with_reducible rfl))
    try simp only [pu]
    refine wpAnyH_done (by kernel_rfl) ?_ _
    obtain ⟨wz,hnwz⟩:∃ x,w703 = x:=⟨_,rfl⟩
    have Bwz:Hid (Below wy.heap.size wy wz):=Lib.hid (by rw [← hnwz];exact But.to_below Kw703.out (Nat.le_refl _) (fun _ _ q => q))
    rw [hnwz]
    clear hnwz hHeld hHeld2
    go_wp2_with fail
    go_ret3
    exact ⟨rfl,HB.out.trans ((BVY.out.trans (Bwz.out.mono BVY.out.size)).mono HB.out.size)⟩
  · obtain rfl:sz = 1:=by omega
    have HSO:Hid (strOf (0 :: bOf y) = res):=Lib.hid (by
      rw [← HRES.out]
      unfold soB
      rw [if_pos (by omega),List.getD_eq_getElem?_getD,HY.out];rfl)
    clear hN h1
    go_enter Tryz.func31,Tryz.ntmps31
    go_upto_region 4 with fail
    rw [HWV.out]
    go_wp2_with fail
    refine (HTX.out wv).mono ?_
    rw [HSO.out]
    rintro ev w1 ⟨rfl,b1⟩
    go_wp2_with fail
    go_ret3
    exact ⟨rfl,HB.out.trans (b1.mono HB.out.size)⟩

set_option maxRecDepth 100000 in
set_option maxHeartbeats 8000000 in
theorem in20_over (base b2 : Nat) (v : Value) (L : List ByteArray) (ix sz : Nat) (d : ByteArray) (P : List (List UInt8)) (A : Option Addr) (m c : Nat) (w : World) (h : RLogAt base b2 v L w) (hs : L.length < sz) (hs2 : sz < 18446744073709551616) :
    Calls Tryz.prog 10 #[.pointer (some ⟨b2,0,none⟩),.int .u64 ix,.int .u64 sz,.string d,.slice A m c] w fun ev w' => ev = .returned (PV none) ∧ Below w.heap.size w w':=by
  obtain ⟨vr,evr,Hvr,Zvr,Ivr,Ovr⟩:=row_of zeroH zeroH_length
  obtain ⟨vf,evf,HVF,Zvf,Ivf,Ovf⟩:=fault_of 5
  have HRT:Hid (∀ w',Below w.heap.size w w' → Calls Tryz.prog 28 #[.pointer (some ⟨b2,0,none⟩),.int .u64 sz] w' fun ev w2 => ev = .returned (.tuple #[.agg vr,.agg vf]) ∧ Below w'.heap.size w' w2):=Lib.hid (fun w' hb => by
    rw [← evr,← evf];exact root08_bad base b2 v L sz w' (h.below hb) hs hs2)
  clear evr evf h hs hs2
  go_enter Tryz.func10,Tryz.ntmps10
  go_wp2_with fail
  refine (HRT.out w (Below.refl _ _)).mono ?_
  rintro ev w1 ⟨rfl,b1⟩
  have B1:=Lib.hid b1
  clear b1
  go_upto_region 2 with (first
    | (refine wpList_store_row_any rfl 39 _ _ rfl w1.heap.size vr rfl rfl 39 _ ((((Below.refl _ (w1.alloc _)).alloc (Nat.le_refl _) _).block _ (by simp)).trans (heap_at _ _ _ rfl)) Ivr.out (by rw [Zvr.out];rfl) Ovr.out ?_;intro w2 hbA hgA hsA;have BA:=Lib.hid hbA;have GA:=Lib.hid hgA;have SA:Hid (w2.heap.size = w1.heap.size+1+1):=Lib.hid (hsA.trans (by simp));clear hbA hgA hsA)
    | (refine wpList_store_row_any rfl 52 _ _ rfl (w1.heap.size+1) vf rfl rfl 52 _ ((BA.out.same _ (by simp) (by omega)).trans (heap_at _ _ _ (by simp))) Ivf.out (by rw [Zvf.out];rfl) Ovf.out ?_;intro wy hbB hgB hsB;have BC:=Lib.hid hbB;have RF:=Lib.hid hgB;have SB:Hid (wy.heap.size = w1.heap.size+1+1):=Lib.hid (hsB.trans SA.out);clear hbB hgB hsB))
  have B1Y:Hid (Below w1.heap.size w1 wy):=Lib.hid ((((Below.refl _ _).alloc (Nat.le_refl _) _).alloc (by simp) _).trans (((BA.out.mono (T:=fun k => k = w1.heap.size ∨ k = w1.heap.size+1) (fun _ _ q => .inl q)).step BC.out (fun _ _ q => .inr q)).to_below (by simp;omega) (fun k hk q => by omega)))
  have RR:Hid (wy.heap[w1.heap.size]? = some (.cells vr 39 (0,0))):=Lib.hid ((BC.out.same _ (by have:=SA.out;omega) (by omega)).trans GA.out)
  have HBY:Hid (Below w.heap.size w wy):=Lib.hid (B1.out.trans (B1Y.out.mono B1.out.size))
  have KF:Hid (∀ w',But (fun _ => False) wy w' → w'.cell? ⟨w1.heap.size+1,0,none⟩ = some (.int .i64 (5:Nat))):=Lib.hid (fun w' hb => by
    rw [cell_of_row w' (w1.heap.size+1) 0 _ 52 (0,0) ((hb.same _ (Array.getElem?_eq_some_iff.1 RF.out).1 (fun q => q)).trans RF.out),HVF.out];rfl)
  refine wp_region_held_drew (S:=But (fun _ => False) wy) (by kernel_rfl) (But.refl _ _).drew (fun hHeld => ?_)
  refine tk (i:=0) (v:=?v6) rfl ?y6 ?r6
  case y6 => (intro w hSw;(try dsimp only at hSw);go_simp;(try with_reducible rfl))
  try simp only [pu]
  refine tk (i:=1) (v:=?v7) rfl ?y7 ?r7
  case y7 => (intro w hSw;(try dsimp only at hSw);have z0:=KF.out w hSw;go_simp;(try with_reducible rfl))
  try simp only [pu]
  refine tk (i:=2) (v:=?v8) rfl ?y8 ?r8
  case y8 => (intro w hSw;(try dsimp only at hSw);go_simp;(try with_reducible rfl))
  try simp only [pu]
  refine tk (i:=3) (v:=?v9) rfl ?y9 ?r9
  case y9 => (intro w hSw;(try dsimp only at hSw);go_simp;(try with_reducible rfl))
  try simp only [pu]
  refine ts (i:=4) rfl ?_
  try simp only [pu]
  refine ts (i:=5) rfl ?_
  try simp only [pu]
  refine ts (i:=6) rfl ?_
  try simp only [pu]
  refine ts (i:=7) rfl ?_
  try simp only [pu]
  refine ts (i:=8) rfl ?_
  try simp only [pu]
  refine ts (i:=9) rfl ?_
  try simp only [pu]
  refine ts (i:=10) rfl ?_
  try simp only [pu]
  refine ts (i:=11) rfl ?_
  try simp only [pu]
  refine ts (i:=12) rfl ?_
  try simp only [pu]
  refine tk (i:=13) (v:=?v19) rfl ?y19 ?r19
  case y19 => (intro w hSw;(try dsimp only at hSw);go_simp;(try with_reducible rfl))
  try simp only [pu]
  refine wpAnyH_done (by kernel_rfl) ?_ _
  obtain ⟨wz,hnwz⟩:∃ x,wy.drew = x:=⟨_,rfl⟩
  have Bwz:Hid (Below wy.heap.size wy wz):=Lib.hid (by rw [← hnwz];exact But.to_below ((But.refl (fun _ => False) wy).drew) (Nat.le_refl _) (fun _ _ q => q))
  rw [hnwz]
  clear hnwz hHeld
  go_wp2_with fail
  go_ret3
  exact ⟨rfl,HBY.out.trans (Bwz.out.mono HBY.out.size)⟩

set_option maxRecDepth 100000 in
set_option maxHeartbeats 8000000 in
theorem in20_bad (base b2 : Nat) (v : Value) (L : List ByteArray) (ix sz : Nat) (d : ByteArray) (P : List (List UInt8)) (A : Option Addr) (m c : Nat) (w : World) (h : RLogAt base b2 v L w) (hs : sz ≤ L.length) (hix : ix < 18446744073709551616) (hd : d.size ≤ 10000000) (hp : HIn w A m c P) (hm9 : m ≤ 1000000000) (hv : ¬ (ix < sz ∧ verP ix sz L d P)) :
    Calls Tryz.prog 10 #[.pointer (some ⟨b2,0,none⟩),.int .u64 ix,.int .u64 sz,.string d,.slice A m c] w fun ev w' => ev = .returned (PV none) ∧ Below w.heap.size w w':=by
  have hL:=h.1.1
  obtain ⟨vr,evr,Hvr,Zvr,Ivr,Ovr⟩:=row_of (treeB L 0 sz) (treeB_len _ _ _)
  obtain ⟨vl,evl,Hvl,Zvl,Ivl,Ovl⟩:=row_of (leafH d) (leafH_length _)
  obtain ⟨vf,evf,HVF,Zvf,Ivf,Ovf⟩:=fault_of 0
  have HRT:Hid (∀ w',Below w.heap.size w w' → Calls Tryz.prog 28 #[.pointer (some ⟨b2,0,none⟩),.int .u64 sz] w' fun ev w2 => ev = .returned (.tuple #[.agg vr,.agg vf]) ∧ Below w'.heap.size w' w2):=Lib.hid (fun w' hb => by
    rw [← evr,← evf];exact root08_ok base b2 v L sz w' (h.below hb) hs)
  have HLF:Hid (∀ w',Calls Tryz.prog 30 #[.string d] w' fun ev w2 => ev = .returned (.agg vl) ∧ Below w'.heap.size w' w2):=Lib.hid (fun w' => by
    have:=refleaf_any d w' (by omega)
    rw [evl] at this;exact this)
  have hk0:=inc_zero ix sz L d P (by omega)
  obtain ⟨k,hk⟩:∃ k,incK ix sz (leafH d) (treeB L 0 sz) P = k:=⟨_,rfl⟩
  rw [hk] at hk0
  have HIN:Hid (∀ w',Below w.heap.size w w' → Calls Tryz.prog 29 #[.int .u64 ix,.int .u64 sz,.agg vl,.slice A m c,.agg vr] w' fun ev w2 => ev = .returned (faultV k) ∧ Below w'.heap.size w' w2):=Lib.hid (fun w' hb => by
    have:=incl18_any ix sz (leafH d) (leafH_length _) P A m c w' (by omega) (by omega) (by omega) (by omega) (hp.below hb) (treeB L 0 sz) (treeB_len _ _ _)
    rw [evl,evr,hk] at this;exact this)
  have hkn:k ≠ 0:=fun e => hv (hk0.1 e)
  have hkb:((k:Int) != 0) = true:=by simp;exact hkn
  have hkb2:¬ (k:Int) = 0:=by omega
  have hfd:=fun (w:World) => field_code (.int .i64 (k:Int)) (.int .i64 (-1)) w
  unfold faultV at HIN
  clear evr evl evf h hs hix hd hp hm9 hk hk0 hv hkn
  go_enter Tryz.func10,Tryz.ntmps10
  go_wp2_with fail
  refine (HRT.out w (Below.refl _ _)).mono ?_
  rintro ev w1 ⟨rfl,b1⟩
  have B1:=Lib.hid b1
  clear b1
  go_upto_region 2 with (first
    | (refine wpList_store_row_any rfl 39 _ _ rfl w1.heap.size vr rfl rfl 39 _ ((((Below.refl _ (w1.alloc _)).alloc (Nat.le_refl _) _).block _ (by simp)).trans (heap_at _ _ _ rfl)) Ivr.out (by rw [Zvr.out];rfl) Ovr.out ?_;intro w2 hbA hgA hsA;have BA:=Lib.hid hbA;have GA:=Lib.hid hgA;have SA:Hid (w2.heap.size = w1.heap.size+1+1):=Lib.hid (hsA.trans (by simp));clear hbA hgA hsA)
    | (refine wpList_store_row_any rfl 52 _ _ rfl (w1.heap.size+1) vf rfl rfl 52 _ ((BA.out.same _ (by simp) (by omega)).trans (heap_at _ _ _ (by simp))) Ivf.out (by rw [Zvf.out];rfl) Ovf.out ?_;intro wy hbB hgB hsB;have BC:=Lib.hid hbB;have RF:=Lib.hid hgB;have SB:Hid (wy.heap.size = w1.heap.size+1+1):=Lib.hid (hsB.trans SA.out);clear hbB hgB hsB))
  have B1Y:Hid (Below w1.heap.size w1 wy):=Lib.hid ((((Below.refl _ _).alloc (Nat.le_refl _) _).alloc (by simp) _).trans (((BA.out.mono (T:=fun k => k = w1.heap.size ∨ k = w1.heap.size+1) (fun _ _ q => .inl q)).step BC.out (fun _ _ q => .inr q)).to_below (by simp;omega) (fun k hk q => by omega)))
  have RR:Hid (wy.heap[w1.heap.size]? = some (.cells vr 39 (0,0))):=Lib.hid ((BC.out.same _ (by have:=SA.out;omega) (by omega)).trans GA.out)
  have HBY:Hid (Below w.heap.size w wy):=Lib.hid (B1.out.trans (B1Y.out.mono B1.out.size))
  have KF:Hid (∀ w',But (fun _ => False) wy w' → w'.cell? ⟨w1.heap.size+1,0,none⟩ = some (.int .i64 (0:Nat))):=Lib.hid (fun w' hb => by
    rw [cell_of_row w' (w1.heap.size+1) 0 _ 52 (0,0) ((hb.same _ (Array.getElem?_eq_some_iff.1 RF.out).1 (fun q => q)).trans RF.out),HVF.out];rfl)
  refine wp_region_held_drew (S:=But (fun _ => False) wy) (by kernel_rfl) (But.refl _ _).drew (fun hHeld => ?_)
  refine tk (i:=0) (v:=?v20) rfl ?y20 ?r20
  case y20 => (intro w hSw;(try dsimp only at hSw);go_simp;(try with_reducible rfl))
  try simp only [pu]
  refine tk (i:=1) (v:=?v21) rfl ?y21 ?r21
  case y21 => (intro w hSw;(try dsimp only at hSw);have z0:=KF.out w hSw;go_simp;(try with_reducible rfl))
  try simp only [pu]
  refine tk (i:=2) (v:=?v22) rfl ?y22 ?r22
  case y22 => (intro w hSw;(try dsimp only at hSw);go_simp;(try with_reducible rfl))
  try simp only [pu]
  refine tk (i:=3) (v:=?v23) rfl ?y23 ?r23
  case y23 => (intro w hSw;(try dsimp only at hSw);go_simp;(try with_reducible rfl))
  try simp only [pu]
  refine tk (i:=4) (v:=?v24) rfl ?y24 ?r24
  case y24 => (intro w hSw;(try dsimp only at hSw);go_simp;(try with_reducible rfl))
  try simp only [pu]
  refine tk (i:=5) (v:=?v25) rfl ?y25 ?r25
  case y25 => (intro w hSw;(try dsimp only at hSw);go_simp;(try with_reducible rfl))
  try simp only [pu]
  refine tk (i:=6) (v:=?v26) rfl ?y26 ?r26
  case y26 => (intro w hSw;(try dsimp only at hSw);go_simp;(try with_reducible rfl))
  try simp only [pu]
  refine tk (i:=8) (v:=?v27) rfl ?y27 ?r27
  case y27 => (intro w hSw;(try dsimp only at hSw);go_simp;(try with_reducible rfl))
  try simp only [pu]
  refine tw (i:=9) rfl (yieldsIf_load_row (by rfl) 39 _ (by rfl) w1.heap.size (by rfl) 39 vr (0,0) _ (fun w h => (But.same h _ (by have:=(Array.getElem?_eq_some_iff.1 RR.out).1;exact this) (fun q => q)).trans RR.out) Tryz.underlying39 rfl Ivr.out) ?_
  try simp only [pu]
  refine wpAnyH_ready (rs:=[7]) (by kernel_rfl) (by simp) ?_
  refine AllReadyH.cons (i:=7) rfl (fun K2 hK2 => ?_) AllReadyH.nil
  go_simp
  go_at_call 30
  refine (HLF.out wy.drew).mono ?_
  rintro ev w704 ⟨rfl,bw704⟩
  try go_wp2_with fail
  have Kw704:Hid (But (fun _ => False) wy w704):=Lib.hid (((But.refl (fun _ => False) wy).drew).below bw704)
  clear bw704
  refine hK2.out _ _ Kw704.out (fun hHeld2 => ?_)
  clear hK2 K2
  try simp only [pu]
  refine wpAnyH_ready (rs:=[10]) (by kernel_rfl) (by simp) ?_
  refine AllReadyH.cons (i:=10) rfl (fun K2 hK2 => ?_) AllReadyH.nil
  go_simp
  go_at_call 29
  refine (HIN.out w704 (HBY.out.trans (But.to_below Kw704.out HBY.out.size (fun _ _ q => q)))).mono ?_
  rintro ev w705 ⟨rfl,bw705⟩
  try go_wp2_with fail
  have Kw705:Hid (But (fun _ => False) wy w705):=Lib.hid (Kw704.out.below bw705)
  clear bw705
  refine hK2.out _ _ Kw705.out (fun hHeld2 => ?_)
  clear hK2 K2
  try simp only [pu]
  refine tk (i:=11) (v:=?v29) rfl ?y29 ?r29
  case y29 => (intro w hSw;(try dsimp only at hSw);go_simp;(try with_reducible rfl))
  try simp only [pu]
  refine tk (i:=12) (v:=?v30) rfl ?y30 ?r30
  case y30 => (intro w hSw;(try dsimp only at hSw);go_simp;(try with_reducible rfl))
  try simp only [pu]
  refine tk (i:=13) (v:=?v31) rfl ?y31 ?r31
  case y31 => (intro w hSw;(try dsimp only at hSw);go_simp;(try with_reducible rfl))
  try simp only [pu]
  refine wpAnyH_done (by kernel_rfl) ?_ _
  obtain ⟨wz,hnwz⟩:∃ x,w705 = x:=⟨_,rfl⟩
  have Bwz:Hid (Below wy.heap.size wy wz):=Lib.hid (by rw [← hnwz];exact But.to_below Kw705.out (Nat.le_refl _) (fun _ _ q => q))
  rw [hnwz]
  clear hnwz hHeld hHeld2
  have HBZ:Hid (Below w.heap.size w wz):=Lib.hid (HBY.out.trans (Bwz.out.mono HBY.out.size))
  go_wp2_with fail
  go_ret3
  exact ⟨rfl,HBZ.out⟩

set_option maxRecDepth 100000 in
set_option maxHeartbeats 8000000 in
theorem in20_same (base b2 : Nat) (v : Value) (L : List ByteArray) (ix sz : Nat) (d : ByteArray) (P : List (List UInt8)) (A : Option Addr) (m c : Nat) (w : World) (h : RLogAt base b2 v L w) (hs : sz ≤ L.length) (hix : ix < 18446744073709551616) (hd : d.size ≤ 10000000) (hp : HIn w A m c P) (hm9 : m ≤ 1000000000) (hx : ix < sz) (hv : verP ix sz L d P) (hsm : L[ix]? = some d) :
    Calls Tryz.prog 10 #[.pointer (some ⟨b2,0,none⟩),.int .u64 ix,.int .u64 sz,.string d,.slice A m c] w fun ev w' => ev = .returned (.tuple #[.string (strOf (soB L sz)),.string (strOf (soB L sz)),.bool false]) ∧ Below w.heap.size w w':=by
  have hL:=h.1.1
  obtain ⟨vr,evr,Hvr,Zvr,Ivr,Ovr⟩:=row_of (treeB L 0 sz) (treeB_len _ _ _)
  obtain ⟨vl,evl,Hvl,Zvl,Ivl,Ovl⟩:=row_of (leafH d) (leafH_length _)
  obtain ⟨vf,evf,HVF,Zvf,Ivf,Ovf⟩:=fault_of 0
  have HRT:Hid (∀ w',Below w.heap.size w w' → Calls Tryz.prog 28 #[.pointer (some ⟨b2,0,none⟩),.int .u64 sz] w' fun ev w2 => ev = .returned (.tuple #[.agg vr,.agg vf]) ∧ Below w'.heap.size w' w2):=Lib.hid (fun w' hb => by
    rw [← evr,← evf];exact root08_ok base b2 v L sz w' (h.below hb) hs)
  have HLF:Hid (∀ w',Calls Tryz.prog 30 #[.string d] w' fun ev w2 => ev = .returned (.agg vl) ∧ Below w'.heap.size w' w2):=Lib.hid (fun w' => by
    have:=refleaf_any d w' (by omega)
    rw [evl] at this;exact this)
  have hk0:=inc_zero ix sz L d P (by omega)
  obtain ⟨k,hk⟩:∃ k,incK ix sz (leafH d) (treeB L 0 sz) P = k:=⟨_,rfl⟩
  rw [hk] at hk0
  have HIN:Hid (∀ w',Below w.heap.size w w' → Calls Tryz.prog 29 #[.int .u64 ix,.int .u64 sz,.agg vl,.slice A m c,.agg vr] w' fun ev w2 => ev = .returned (faultV k) ∧ Below w'.heap.size w' w2):=Lib.hid (fun w' hb => by
    have:=incl18_any ix sz (leafH d) (leafH_length _) P A m c w' (by omega) (by omega) (by omega) (by omega) (hp.below hb) (treeB L 0 sz) (treeB_len _ _ _)
    rw [evl,evr,hk] at this;exact this)
  obtain rfl:k = 0:=hk0.2 ⟨hx,hv⟩
  have HR:=Lib.hid h
  obtain ⟨y,hy⟩:∃ y,L[ix]? = some y:=⟨_,List.getElem?_eq_getElem (by omega)⟩
  obtain ⟨AL,capL,rfl,_⟩:=own_shape h.2.2.2.1
  obtain ⟨_,hsin,_⟩:=rlog_sin h
  obtain ⟨gL,oL,rfl,hcL,hgL,_⟩:=hsin.at hy
  have HCL:=Lib.hid (And.intro hcL hgL)
  have n0:(ix:Int) < L.length:=by omega
  have n1:ix < L.length:=by omega
  have n2:(L.length:Int) ≤ 1048576:=by omega
  unfold faultV at HIN
  have hfd:=fun (w:World) => field_code (.int .i64 ((0:Nat):Int)) (.int .i64 0) w
  have hfd2:=fun (w:World) => field_code (.int .i64 0) (.int .i64 0) w
  have HSZ:Hid (0 < sz ∧ sz ≤ L.length):=Lib.hid ⟨by omega,hs⟩
  obtain rfl:y = d:=by rw [hy] at hsm;exact Option.some.inj hsm
  clear evr evl evf h hs hix hd hp hm9 hk hk0 hx hv hsm hcL hgL hsin hy
  go_enter Tryz.func10,Tryz.ntmps10
  go_wp2_with fail
  refine (HRT.out w (Below.refl _ _)).mono ?_
  rintro ev w1 ⟨rfl,b1⟩
  have B1:=Lib.hid b1
  clear b1
  go_upto_region 2 with (first
    | (refine wpList_store_row_any rfl 39 _ _ rfl w1.heap.size vr rfl rfl 39 _ ((((Below.refl _ (w1.alloc _)).alloc (Nat.le_refl _) _).block _ (by simp)).trans (heap_at _ _ _ rfl)) Ivr.out (by rw [Zvr.out];rfl) Ovr.out ?_;intro w2 hbA hgA hsA;have BA:=Lib.hid hbA;have GA:=Lib.hid hgA;have SA:Hid (w2.heap.size = w1.heap.size+1+1):=Lib.hid (hsA.trans (by simp));clear hbA hgA hsA)
    | (refine wpList_store_row_any rfl 52 _ _ rfl (w1.heap.size+1) vf rfl rfl 52 _ ((BA.out.same _ (by simp) (by omega)).trans (heap_at _ _ _ (by simp))) Ivf.out (by rw [Zvf.out];rfl) Ovf.out ?_;intro wy hbB hgB hsB;have BC:=Lib.hid hbB;have RF:=Lib.hid hgB;have SB:Hid (wy.heap.size = w1.heap.size+1+1):=Lib.hid (hsB.trans SA.out);clear hbB hgB hsB))
  have B1Y:Hid (Below w1.heap.size w1 wy):=Lib.hid ((((Below.refl _ _).alloc (Nat.le_refl _) _).alloc (by simp) _).trans (((BA.out.mono (T:=fun k => k = w1.heap.size ∨ k = w1.heap.size+1) (fun _ _ q => .inl q)).step BC.out (fun _ _ q => .inr q)).to_below (by simp;omega) (fun k hk q => by omega)))
  have RR:Hid (wy.heap[w1.heap.size]? = some (.cells vr 39 (0,0))):=Lib.hid ((BC.out.same _ (by have:=SA.out;omega) (by omega)).trans GA.out)
  have HBY:Hid (Below w.heap.size w wy):=Lib.hid (B1.out.trans (B1Y.out.mono B1.out.size))
  have KF:Hid (∀ w',But (fun _ => False) wy w' → w'.cell? ⟨w1.heap.size+1,0,none⟩ = some (.int .i64 (0:Nat))):=Lib.hid (fun w' hb => by
    rw [cell_of_row w' (w1.heap.size+1) 0 _ 52 (0,0) ((hb.same _ (Array.getElem?_eq_some_iff.1 RF.out).1 (fun q => q)).trans RF.out),HVF.out];rfl)
  refine wp_region_held_drew (S:=But (fun _ => False) wy) (by kernel_rfl) (But.refl _ _).drew (fun hHeld => ?_)
  refine tk (i:=0) (v:=?v32) rfl ?y32 ?r32
  case y32 => (intro w hSw;(try dsimp only at hSw);go_simp;(try with_reducible rfl))
  try simp only [pu]
  refine tk (i:=1) (v:=?v33) rfl ?y33 ?r33
  case y33 => (intro w hSw;(try dsimp only at hSw);have z0:=KF.out w hSw;go_simp;(try with_reducible rfl))
  try simp only [pu]
  refine tk (i:=2) (v:=?v34) rfl ?y34 ?r34
  case y34 => (intro w hSw;(try dsimp only at hSw);go_simp;(try with_reducible rfl))
  try simp only [pu]
  refine tk (i:=3) (v:=?v35) rfl ?y35 ?r35
  case y35 => (intro w hSw;(try dsimp only at hSw);go_simp;(try with_reducible rfl))
  try simp only [pu]
  refine tk (i:=4) (v:=?v36) rfl ?y36 ?r36
  case y36 => (intro w hSw;(try dsimp only at hSw);go_simp;(try with_reducible rfl))
  try simp only [pu]
  refine tk (i:=5) (v:=?v37) rfl ?y37 ?r37
  case y37 => (intro w hSw;(try dsimp only at hSw);go_simp;(try with_reducible rfl))
  try simp only [pu]
  refine tk (i:=6) (v:=?v38) rfl ?y38 ?r38
  case y38 => (intro w hSw;(try dsimp only at hSw);go_simp;(try with_reducible rfl))
  try simp only [pu]
  refine tk (i:=8) (v:=?v39) rfl ?y39 ?r39
  case y39 => (intro w hSw;(try dsimp only at hSw);go_simp;(try with_reducible rfl))
  try simp only [pu]
  refine tw (i:=9) rfl (yieldsIf_load_row (by rfl) 39 _ (by rfl) w1.heap.size (by rfl) 39 vr (0,0) _ (fun w h => (But.same h _ (by have:=(Array.getElem?_eq_some_iff.1 RR.out).1;exact this) (fun q => q)).trans RR.out) Tryz.underlying39 rfl Ivr.out) ?_
  try simp only [pu]
  refine wpAnyH_ready (rs:=[7]) (by kernel_rfl) (by simp) ?_
  refine AllReadyH.cons (i:=7) rfl (fun K2 hK2 => ?_) AllReadyH.nil
  go_simp
  go_at_call 30
  refine (HLF.out wy.drew).mono ?_
  rintro ev w706 ⟨rfl,bw706⟩
  try go_wp2_with fail
  have Kw706:Hid (But (fun _ => False) wy w706):=Lib.hid (((But.refl (fun _ => False) wy).drew).below bw706)
  clear bw706
  refine hK2.out _ _ Kw706.out (fun hHeld2 => ?_)
  clear hK2 K2
  try simp only [pu]
  refine wpAnyH_ready (rs:=[10]) (by kernel_rfl) (by simp) ?_
  refine AllReadyH.cons (i:=10) rfl (fun K2 hK2 => ?_) AllReadyH.nil
  go_simp
  go_at_call 29
  refine (HIN.out w706 (HBY.out.trans (But.to_below Kw706.out HBY.out.size (fun _ _ q => q)))).mono ?_
  rintro ev w707 ⟨rfl,bw707⟩
  try go_wp2_with fail
  have Kw707:Hid (But (fun _ => False) wy w707):=Lib.hid (Kw706.out.below bw707)
  clear bw707
  refine hK2.out _ _ Kw707.out (fun hHeld2 => ?_)
  clear hK2 K2
  try simp only [pu]
  refine tk (i:=11) (v:=?v41) rfl ?y41 ?r41
  case y41 => (intro w hSw;(try dsimp only at hSw);go_simp;(try with_reducible rfl))
  try simp only [pu]
  refine tk (i:=12) (v:=?v42) rfl ?y42 ?r42
  case y42 => (intro w hSw;(try dsimp only at hSw);go_simp;(try with_reducible rfl))
  try simp only [pu]
  refine tk (i:=13) (v:=?v43) rfl ?y43 ?r43
  case y43 => (intro w hSw;(try dsimp only at hSw);go_simp;(try with_reducible rfl))
  try simp only [pu]
  refine wpAnyH_done (by kernel_rfl) ?_ _
  obtain ⟨wz,hnwz⟩:∃ x,w707 = x:=⟨_,rfl⟩
  have Bwz:Hid (Below wy.heap.size wy wz):=Lib.hid (by rw [← hnwz];exact But.to_below Kw707.out (Nat.le_refl _) (fun _ _ q => q))
  rw [hnwz]
  clear hnwz hHeld hHeld2
  have HBZ:Hid (Below w.heap.size w wz):=Lib.hid (HBY.out.trans (Bwz.out.mono HBY.out.size))
  have cz:=(HR.out.below HBZ.out).c0
  have sz1:=cell_below HBZ.out HCL.out.1 HCL.out.2
  have hdd:(y == y) = true:=(Go.MapKept.bytes_beq y y).2 rfl
  go_wp2_with fail
  refine (so20_any base b2 _ L sz wz (HR.out.below HBZ.out) HSZ.out.1 HSZ.out.2).mono ?_
  rintro ev w7 ⟨rfl,b7⟩
  go_wp2
  go_ret3
  exact ⟨rfl,HBZ.out.trans (b7.mono HBZ.out.size)⟩

set_option maxRecDepth 100000 in
set_option maxHeartbeats 8000000 in
theorem in20_part (base b2 : Nat) (v : Value) (L : List ByteArray) (ix sz : Nat) (d : ByteArray) (P : List (List UInt8)) (A : Option Addr) (m c : Nat) (w : World) (h : RLogAt base b2 v L w) (hs : sz ≤ L.length) (hix : ix < 18446744073709551616) (hd : d.size ≤ 10000000) (hp : HIn w A m c P) (hm9 : m ≤ 1000000000) (hx : ix < sz) (hv : verP ix sz L d P) (hsm : L[ix]? ≠ some d) (hbare : ∀ i, fBare (saidL ((pathL 64 ix 0 sz).zip P)) 64 0 sz i → i = ix) :
    Calls Tryz.prog 10 #[.pointer (some ⟨b2,0,none⟩),.int .u64 ix,.int .u64 sz,.string d,.slice A m c] w fun ev w' => ev = .returned (PV (fWalk (saidL ((pathL 64 ix 0 sz).zip P)) (claimLeaf [d] ix) L (logText L) (claimText [d] ix) 64 0 sz)) ∧ Below w.heap.size w w':=by
  have hL:=h.1.1
  obtain ⟨vr,evr,Hvr,Zvr,Ivr,Ovr⟩:=row_of (treeB L 0 sz) (treeB_len _ _ _)
  obtain ⟨vl,evl,Hvl,Zvl,Ivl,Ovl⟩:=row_of (leafH d) (leafH_length _)
  obtain ⟨vf,evf,HVF,Zvf,Ivf,Ovf⟩:=fault_of 0
  have HRT:Hid (∀ w',Below w.heap.size w w' → Calls Tryz.prog 28 #[.pointer (some ⟨b2,0,none⟩),.int .u64 sz] w' fun ev w2 => ev = .returned (.tuple #[.agg vr,.agg vf]) ∧ Below w'.heap.size w' w2):=Lib.hid (fun w' hb => by
    rw [← evr,← evf];exact root08_ok base b2 v L sz w' (h.below hb) hs)
  have HLF:Hid (∀ w',Calls Tryz.prog 30 #[.string d] w' fun ev w2 => ev = .returned (.agg vl) ∧ Below w'.heap.size w' w2):=Lib.hid (fun w' => by
    have:=refleaf_any d w' (by omega)
    rw [evl] at this;exact this)
  have hk0:=inc_zero ix sz L d P (by omega)
  obtain ⟨k,hk⟩:∃ k,incK ix sz (leafH d) (treeB L 0 sz) P = k:=⟨_,rfl⟩
  rw [hk] at hk0
  have HIN:Hid (∀ w',Below w.heap.size w w' → Calls Tryz.prog 29 #[.int .u64 ix,.int .u64 sz,.agg vl,.slice A m c,.agg vr] w' fun ev w2 => ev = .returned (faultV k) ∧ Below w'.heap.size w' w2):=Lib.hid (fun w' hb => by
    have:=incl18_any ix sz (leafH d) (leafH_length _) P A m c w' (by omega) (by omega) (by omega) (by omega) (hp.below hb) (treeB L 0 sz) (treeB_len _ _ _)
    rw [evl,evr,hk] at this;exact this)
  obtain rfl:k = 0:=hk0.2 ⟨hx,hv⟩
  have HR:=Lib.hid h
  obtain ⟨y,hy⟩:∃ y,L[ix]? = some y:=⟨_,List.getElem?_eq_getElem (by omega)⟩
  obtain ⟨AL,capL,rfl,_⟩:=own_shape h.2.2.2.1
  obtain ⟨_,hsin,_⟩:=rlog_sin h
  obtain ⟨gL,oL,rfl,hcL,hgL,_⟩:=hsin.at hy
  have HCL:=Lib.hid (And.intro hcL hgL)
  have n0:(ix:Int) < L.length:=by omega
  have n1:ix < L.length:=by omega
  have n2:(L.length:Int) ≤ 1048576:=by omega
  unfold faultV at HIN
  have hfd:=fun (w:World) => field_code (.int .i64 ((0:Nat):Int)) (.int .i64 0) w
  have hfd2:=fun (w:World) => field_code (.int .i64 0) (.int .i64 0) w
  have HSZ:Hid (0 < sz ∧ sz ≤ L.length):=Lib.hid ⟨by omega,hs⟩
  have HDY:Hid (y ≠ d):=Lib.hid (fun e => hsm (by rw [hy,e]))
  have HP:=Lib.hid hp
  have HD:=Lib.hid hd
  have HIX:=Lib.hid hix
  obtain ⟨l,hl⟩:∃ l,pathL 64 ix 0 sz = l:=⟨_,rfl⟩
  have hln:l.length = m:=by rw [← hl,← hv.1];exact hp.2.1
  have hPB:∀ p ∈ l,PB p:=fun p hpm => by
    rw [← hl] at hpm
    obtain ⟨q1,q2,q3,_⟩:=pathL_in 64 ix 0 sz p (by omega) (by omega) (by rw [pow2_64];omega) hpm
    exact ⟨by omega,by omega,by omega,by omega⟩
  have HPA:Hid (∀ w,Calls Tryz.prog 32 #[.int .u64 ix,.int .u64 sz] w (RefList 84 2 w l.length (spanCells l))):=Lib.hid (fun w => by rw [← hl];exact refPath_ok ix sz w (by omega) (by omega) (by omega))
  have hnd:l.Nodup:=by rw [← hl];exact path_nodup 64 ix 0 sz (by omega) (by omega) (by rw [pow2_64];omega)
  have HSD:Hid (∀ p,saidL (l.zip P) p = match firstL (l.zip P) p with | some h => some h | none => if 0 < 0 ∧ p = (0,((0:Nat):Int)) then some zeroH else none):=Lib.hid (fun p => by
    rw [zip_first (by rw [hln];exact hp.2.1) hnd p]
    cases saidL (l.zip P) p with
    | some x => rfl
    | none => simp)
  obtain ⟨out,hout⟩:∃ z,fWalk (saidL ((pathL 64 ix 0 sz).zip P)) (claimLeaf [d] ix) L (logText L) (claimText [d] ix) 64 0 sz = z:=⟨_,rfl⟩
  rw [hout]
  rw [hl] at hout hbare
  have HLB:Hid (l.length = m ∧ (∀ p ∈ l,PB p) ∧ m ≤ 1000000000 ∧ (∀ i,fBare (saidL (l.zip P)) 64 0 sz i → i = ix) ∧ fWalk (saidL (l.zip P)) (claimLeaf [d] ix) L (logText L) (claimText [d] ix) 64 0 sz = out):=Lib.hid ⟨hln,hPB,hm9,hbare,hout⟩
  have HBP:=Lib.hid (And.intro hp.2.2.1 hp.2.2.2.1)
  clear evr evl evf h hs hix hd hp hm9 hk hk0 hx hv hsm hcL hgL hsin hy hl hln hPB hnd hbare hout
  go_enter Tryz.func10,Tryz.ntmps10
  go_wp2_with fail
  refine (HRT.out w (Below.refl _ _)).mono ?_
  rintro ev w1 ⟨rfl,b1⟩
  have B1:=Lib.hid b1
  clear b1
  go_upto_region 2 with (first
    | (refine wpList_store_row_any rfl 39 _ _ rfl w1.heap.size vr rfl rfl 39 _ ((((Below.refl _ (w1.alloc _)).alloc (Nat.le_refl _) _).block _ (by simp)).trans (heap_at _ _ _ rfl)) Ivr.out (by rw [Zvr.out];rfl) Ovr.out ?_;intro w2 hbA hgA hsA;have BA:=Lib.hid hbA;have GA:=Lib.hid hgA;have SA:Hid (w2.heap.size = w1.heap.size+1+1):=Lib.hid (hsA.trans (by simp));clear hbA hgA hsA)
    | (refine wpList_store_row_any rfl 52 _ _ rfl (w1.heap.size+1) vf rfl rfl 52 _ ((BA.out.same _ (by simp) (by omega)).trans (heap_at _ _ _ (by simp))) Ivf.out (by rw [Zvf.out];rfl) Ovf.out ?_;intro wy hbB hgB hsB;have BC:=Lib.hid hbB;have RF:=Lib.hid hgB;have SB:Hid (wy.heap.size = w1.heap.size+1+1):=Lib.hid (hsB.trans SA.out);clear hbB hgB hsB))
  have B1Y:Hid (Below w1.heap.size w1 wy):=Lib.hid ((((Below.refl _ _).alloc (Nat.le_refl _) _).alloc (by simp) _).trans (((BA.out.mono (T:=fun k => k = w1.heap.size ∨ k = w1.heap.size+1) (fun _ _ q => .inl q)).step BC.out (fun _ _ q => .inr q)).to_below (by simp;omega) (fun k hk q => by omega)))
  have RR:Hid (wy.heap[w1.heap.size]? = some (.cells vr 39 (0,0))):=Lib.hid ((BC.out.same _ (by have:=SA.out;omega) (by omega)).trans GA.out)
  have HBY:Hid (Below w.heap.size w wy):=Lib.hid (B1.out.trans (B1Y.out.mono B1.out.size))
  have KF:Hid (∀ w',But (fun _ => False) wy w' → w'.cell? ⟨w1.heap.size+1,0,none⟩ = some (.int .i64 (0:Nat))):=Lib.hid (fun w' hb => by
    rw [cell_of_row w' (w1.heap.size+1) 0 _ 52 (0,0) ((hb.same _ (Array.getElem?_eq_some_iff.1 RF.out).1 (fun q => q)).trans RF.out),HVF.out];rfl)
  refine wp_region_held_drew (S:=But (fun _ => False) wy) (by kernel_rfl) (But.refl _ _).drew (fun hHeld => ?_)
  refine tk (i:=0) (v:=?v44) rfl ?y44 ?r44
  case y44 => (intro w hSw;(try dsimp only at hSw);go_simp;(try with_reducible rfl))
  try simp only [pu]
  refine tk (i:=1) (v:=?v45) rfl ?y45 ?r45
  case y45 => (intro w hSw;(try dsimp only at hSw);have z0:=KF.out w hSw;go_simp;(try with_reducible rfl))
  try simp only [pu]
  refine tk (i:=2) (v:=?v46) rfl ?y46 ?r46
  case y46 => (intro w hSw;(try dsimp only at hSw);go_simp;(try with_reducible rfl))
  try simp only [pu]
  refine tk (i:=3) (v:=?v47) rfl ?y47 ?r47
  case y47 => (intro w hSw;(try dsimp only at hSw);go_simp;(try with_reducible rfl))
  try simp only [pu]
  refine tk (i:=4) (v:=?v48) rfl ?y48 ?r48
  case y48 => (intro w hSw;(try dsimp only at hSw);go_simp;(try with_reducible rfl))
  try simp only [pu]
  refine tk (i:=5) (v:=?v49) rfl ?y49 ?r49
  case y49 => (intro w hSw;(try dsimp only at hSw);go_simp;(try with_reducible rfl))
  try simp only [pu]
  refine tk (i:=6) (v:=?v50) rfl ?y50 ?r50
  case y50 => (intro w hSw;(try dsimp only at hSw);go_simp;(try with_reducible rfl))
  try simp only [pu]
  refine tk (i:=8) (v:=?v51) rfl ?y51 ?r51
  case y51 => (intro w hSw;(try dsimp only at hSw);go_simp;(try with_reducible rfl))
  try simp only [pu]
  refine tw (i:=9) rfl (yieldsIf_load_row (by rfl) 39 _ (by rfl) w1.heap.size (by rfl) 39 vr (0,0) _ (fun w h => (But.same h _ (by have:=(Array.getElem?_eq_some_iff.1 RR.out).1;exact this) (fun q => q)).trans RR.out) Tryz.underlying39 rfl Ivr.out) ?_
  try simp only [pu]
  refine wpAnyH_ready (rs:=[7]) (by kernel_rfl) (by simp) ?_
  refine AllReadyH.cons (i:=7) rfl (fun K2 hK2 => ?_) AllReadyH.nil
  go_simp
  go_at_call 30
  refine (HLF.out wy.drew).mono ?_
  rintro ev w708 ⟨rfl,bw708⟩
  try go_wp2_with fail
  have Kw708:Hid (But (fun _ => False) wy w708):=Lib.hid (((But.refl (fun _ => False) wy).drew).below bw708)
  clear bw708
  refine hK2.out _ _ Kw708.out (fun hHeld2 => ?_)
  clear hK2 K2
  try simp only [pu]
  refine wpAnyH_ready (rs:=[10]) (by kernel_rfl) (by simp) ?_
  refine AllReadyH.cons (i:=10) rfl (fun K2 hK2 => ?_) AllReadyH.nil
  go_simp
  go_at_call 29
  refine (HIN.out w708 (HBY.out.trans (But.to_below Kw708.out HBY.out.size (fun _ _ q => q)))).mono ?_
  rintro ev w709 ⟨rfl,bw709⟩
  try go_wp2_with fail
  have Kw709:Hid (But (fun _ => False) wy w709):=Lib.hid (Kw708.out.below bw709)
  clear bw709
  refine hK2.out _ _ Kw709.out (fun hHeld2 => ?_)
  clear hK2 K2
  try simp only [pu]
  refine tk (i:=11) (v:=?v53) rfl ?y53 ?r53
  case y53 => (intro w hSw;(try dsimp only at hSw);go_simp;(try with_reducible rfl))
  try simp only [pu]
  refine tk (i:=12) (v:=?v54) rfl ?y54 ?r54
  case y54 => (intro w hSw;(try dsimp only at hSw);go_simp;(try with_reducible rfl))
  try simp only [pu]
  refine tk (i:=13) (v:=?v55) rfl ?y55 ?r55
  case y55 => (intro w hSw;(try dsimp only at hSw);go_simp;(try with_reducible rfl))
  try simp only [pu]
  refine wpAnyH_done (by kernel_rfl) ?_ _
  obtain ⟨wz,hnwz⟩:∃ x,w709 = x:=⟨_,rfl⟩
  have Bwz:Hid (Below wy.heap.size wy wz):=Lib.hid (by rw [← hnwz];exact But.to_below Kw709.out (Nat.le_refl _) (fun _ _ q => q))
  rw [hnwz]
  clear hnwz hHeld hHeld2
  have HBZ:Hid (Below w.heap.size w wz):=Lib.hid (HBY.out.trans (Bwz.out.mono HBY.out.size))
  have cz:=(HR.out.below HBZ.out).c0
  have sz1:=cell_below HBZ.out HCL.out.1 HCL.out.2
  have hdy:=HDY.out
  have hq1:¬ y.toList = d.toList:=str_ne20 hdy
  have hq2:decide (y.toList = d.toList) = false:=by simp [hq1]
  have hq3:(y.toList == d.toList) = false:=by simp [hq1]
  have hq4:decide (y = d) = false:=by simp [hdy]
  have hq5:(y == d) = false:=by cases h:(y == d) with | false => rfl | true => exact absurd ((Go.MapKept.bytes_beq y d).1 h) hdy
  go_wp2_with fail
  refine (HPA.out wz).mono ?_
  clear hq1 hq2 hq3 hq4 hq5 hdy cz sz1
  rintro ev w5 ⟨sv,rfl,hown,b5⟩
  have HRD:=Lib.hid (rd_own hown)
  obtain ⟨Asv,csv,rfl,_⟩:=own_shape hown
  have B5:=Lib.hid b5
  have HB5:Hid (Below w.heap.size w w5):=Lib.hid (HBZ.out.trans (b5.mono HBZ.out.size))
  clear hown b5
  obtain ⟨vn,evn,HVN,Zvn,Ivn,Ovn⟩:=fault_of 0
  go_upto_region 7 with (refine wpList_store_row_any rfl 52 _ _ rfl w5.heap.size vn rfl (by rw [HVN.out];rfl) 52 _ (heap_at _ _ _ rfl) Ivn.out (by rw [Zvn.out];rfl) Ovn.out ?_;intro w6 hbN hgN hsN;have B56:Hid (Below w5.heap.size w5 w6):=Lib.hid (((Below.refl _ w5).alloc (Nat.le_refl _) _).trans (hbN.to_below (by simp) (fun k hk q => by omega)));clear hbN hgN hsN)
  obtain ⟨wa,hwa⟩:∃ z,w6.alloc (.cells #[.string d] 9) = z:=⟨_,rfl⟩
  obtain ⟨wb,hwb⟩:∃ z,wa.alloc (.cells #[.pointer (some ⟨b2,0,none⟩),.slice Asv l.length csv,.slice A m c,.int .u64 ix,.slice (some ⟨w6.heap.size,0,none⟩) 1 1,.int .u64 0,.int .u8 0,.int .u8 0,.int .u8 0,.int .u8 0,.int .u8 0,.int .u8 0,.int .u8 0,.int .u8 0,.int .u8 0,.int .u8 0,.int .u8 0,.int .u8 0,.int .u8 0,.int .u8 0,.int .u8 0,.int .u8 0,.int .u8 0,.int .u8 0,.int .u8 0,.int .u8 0,.int .u8 0,.int .u8 0,.int .u8 0,.int .u8 0,.int .u8 0,.int .u8 0,.int .u8 0,.int .u8 0,.int .u8 0,.int .u8 0,.int .u8 0,.int .u8 0] 81) = z:=⟨_,rfl⟩
  have RS:Hid (wa.heap[w6.heap.size]? = some (.cells #[.string d] 9 (0,0))):=Lib.hid (by rw [← hwa];exact heap_at _ _ _ rfl)
  have B6A:Hid (Below w6.heap.size w6 wa):=Lib.hid (by rw [← hwa];exact (Below.refl _ _).alloc (Nat.le_refl _) _)
  have RGb:Hid (wb.heap[wa.heap.size]? = some (.cells #[.pointer (some ⟨b2,0,none⟩),.slice Asv l.length csv,.slice A m c,.int .u64 ix,.slice (some ⟨w6.heap.size,0,none⟩) 1 1,.int .u64 0,.int .u8 0,.int .u8 0,.int .u8 0,.int .u8 0,.int .u8 0,.int .u8 0,.int .u8 0,.int .u8 0,.int .u8 0,.int .u8 0,.int .u8 0,.int .u8 0,.int .u8 0,.int .u8 0,.int .u8 0,.int .u8 0,.int .u8 0,.int .u8 0,.int .u8 0,.int .u8 0,.int .u8 0,.int .u8 0,.int .u8 0,.int .u8 0,.int .u8 0,.int .u8 0,.int .u8 0,.int .u8 0,.int .u8 0,.int .u8 0,.int .u8 0,.int .u8 0] 81 (0,0))):=Lib.hid (by rw [← hwb];exact heap_at _ _ _ rfl)
  have BAB:Hid (Below wa.heap.size wa wb):=Lib.hid (by rw [← hwb];exact (Below.refl _ _).alloc (Nat.le_refl _) _)
  have RSb:Hid (wb.heap[w6.heap.size]? = some (.cells #[.string d] 9 (0,0))):=Lib.hid ((BAB.out.block _ (Array.getElem?_eq_some_iff.1 RS.out).1).trans RS.out)
  have B5B:Hid (Below w5.heap.size w5 wb):=Lib.hid (B56.out.trans ((B6A.out.trans (BAB.out.mono B6A.out.size)).mono B56.out.size))
  have HBB:Hid (Below w.heap.size w wb):=Lib.hid (HB5.out.trans (B5B.out.mono HB5.out.size))
  have cG:∀ (j:Nat) (u:Value),(#[.pointer (some ⟨b2,0,none⟩),.slice Asv l.length csv,.slice A m c,.int .u64 ix,.slice (some ⟨w6.heap.size,0,none⟩) 1 1,.int .u64 0,.int .u8 0,.int .u8 0,.int .u8 0,.int .u8 0,.int .u8 0,.int .u8 0,.int .u8 0,.int .u8 0,.int .u8 0,.int .u8 0,.int .u8 0,.int .u8 0,.int .u8 0,.int .u8 0,.int .u8 0,.int .u8 0,.int .u8 0,.int .u8 0,.int .u8 0,.int .u8 0,.int .u8 0,.int .u8 0,.int .u8 0,.int .u8 0,.int .u8 0,.int .u8 0,.int .u8 0,.int .u8 0,.int .u8 0,.int .u8 0,.int .u8 0,.int .u8 0]:Array Value)[j]? = some u → wb.cell? ⟨wa.heap.size,j,none⟩ = some u:=fun j u hu => by
    rw [cell_of_row wb wa.heap.size j _ 81 (0,0) RGb.out];exact hu
  have HSI:SIn wb (some ⟨w6.heap.size,0,none⟩) 1 1 [d]:=⟨rfl,Nat.le_refl _,by omega,fun s hs => (by simp at hs;subst hs;have:=HD.out;omega),by omega,.inr ⟨_,_,rfl,fun j v hj => by
    rw [Nat.zero_add,cell_of_row wb _ j _ 9 (0,0) RSb.out]
    simpa using hj⟩⟩
  have HGV:Hid (Giv base b2 wa.heap.size (.slice (some ⟨gL,oL,none⟩) L.length capL) L l Asv csv P A m c ix (some ⟨w6.heap.size,0,none⟩) 1 1 [d] 0 zeroH (saidL (l.zip P)) wb):=Lib.hid {
    rl:=HR.out.below HBB.out
    gl:=(Array.getElem?_eq_some_iff.1 RGb.out).1
    c0:=cG 0 _ rfl
    c1:=by have:=cG 1 _ rfl;rw [HLB.out.1] at this;exact this
    c2:=cG 2 _ rfl
    c3:=cG 3 _ rfl
    c4:=cG 4 _ rfl
    c5:=cG 5 _ rfl
    bf:=fun j u hu => cG (6+j) u (giv_tail _ _ _ _ _ _ j u hu)
    sp:=by
      obtain ⟨_,A5,c5,e5,h5⟩:=HRD.out
      cases e5
      rcases h5 with h5 | ⟨g,q1,q2⟩
      · left
        have:=HLB.out.1
        exact List.length_eq_zero_iff.1 (by omega)
      · by_cases hl0:l = []
        · exact .inl hl0
        · right
          have hlt:g < w5.heap.size:=by
            obtain ⟨p,hp⟩:∃ p,l[0]? = some p:=⟨_,List.getElem?_eq_getElem (List.length_pos_iff.2 hl0)⟩
            exact block_of_cell (q2 _ _ (spanCells_at l 0 p hp).1)
          exact ⟨g,q1,Nat.lt_of_lt_of_le hlt B5B.out.size,fun j u hu => cell_below B5B.out (q2 j u hu) hlt⟩
    hp:=HP.out.below HBB.out
    da:=HSI
    ll:=HLB.out.1
    lm:=HLB.out.2.2.1
    lb:=HLB.out.2.1
    b32:=zeroH_length
    ol:=by omega
    bl:=HIX.out
    small:=fun s hs => by simp at hs;subst hs;have:=HD.out;omega
    sdl:=HSD.out }
  have HPT:Hid (Calls Tryz.prog 33 #[.pointer (some ⟨wa.heap.size,0,none⟩),.agg #[.int .u64 0,.int .u64 sz]] wb fun ev w' => ev = .returned (PV out) ∧ Below wb.heap.size wb w'):=Lib.hid (by
    have:=parts20_any base b2 wa.heap.size (.slice (some ⟨gL,oL,none⟩) L.length capL) L l Asv csv P A m c ix (some ⟨w6.heap.size,0,none⟩) 1 1 [d] 0 zeroH (saidL (l.zip P)) 64 0 sz wb HGV.out (by omega) (by have:=HSZ.out;omega) (by have:=HSZ.out;omega) (by rw [pow2_64];have:=HSZ.out;omega) (by omega) (fun i hi => by have:=HLB.out.2.2.2.1 i hi;omega)
    rw [HLB.out.2.2.2.2] at this;exact this)
  have HWA:=Lib.hid hwa
  have HWB:=Lib.hid hwb
  clear cG HSI hwa hwb
  go_wp2_with (refine wpList_build_str20 rfl _ d rfl rfl ?_)
  rw [HWA.out,HWB.out,show w6.heap.size+1 = wa.heap.size from by rw [← HWA.out];simp]
  refine HPT.out.mono ?_
  rintro ev w9 ⟨rfl,b9⟩
  have HB9:Hid (Below w.heap.size w w9):=Lib.hid (HBB.out.trans (b9.mono HBB.out.size))
  clear b9
  cases out with
  | none =>
    simp only [PV]
    go_wp2
    go_ret3
    exact ⟨rfl,HB9.out⟩
  | some r =>
    simp only [PV]
    go_wp2
    go_ret3
    exact ⟨rfl,HB9.out⟩

end Go.Proofs.YtpdkpdpkggepcaaGreatDoor

/- The law ForgeInclusions. Condition: the package-level variables read as listed. -/
namespace Go.Proofs.YtpdkpdpkggepcaaGreatDoor
open Go.ChangeShapes Go.WideShapes Go.ChangeAt Go.RowKit
set_option linter.unusedVariables false
section
variable {H:Type} {enc:TypeId × Value → H} {W:World} {base:Nat} {spare:Nat → Bool} {held:Bool}
theorem string_arg {n : Nat} {cs : List Value} {x : DataW H × List MemPlace} (h : DataW.trod enc Tryz.prog W base spare held n 9 cs = some x) (hw : ∀ z ∈ x.1.weights Tryz.prog 9, z ≤ reachBytes) :
    ∃ s:ByteArray,cs = [.string s] ∧ s.size ≤ 9000000000000000000:=by
  obtain ⟨s,rfl,rfl,_⟩:=DataW.trod_string Tryz.underlying9 h
  have hr:=reachBytes_lt
  have:=hw s.size (by simp [DataW.weights])
  exact ⟨s,rfl,by omega⟩
end
set_option maxRecDepth 100000 in
set_option maxHeartbeats 4000000 in
theorem fis_great (a : Nat → Addr) (B : Nat) (D : List ByteArray) (d : ByteArray) (P : List (List UInt8)) (A : Option Addr) (n c X Z : Nat) (G : Option Addr) (m g : Nat) (w : World) (hE : Env B a w) (h : SIn w A n c D) (hX : X < 18446744073709551616) (hZ : Z < 18446744073709551616) (hd : d.size ≤ 9000000000000000000) (hp : HIn w G m g P) (hm : m ≤ 9000000000000000000) (hg : 1048576 < n + bulk D + d.size + m) :
    Calls Tryz.prog 3 #[.slice A n c,.int .u64 X,.int .u64 Z,.string d,.slice G m g] w fun ev w' => ev = .returned (.bool true) ∧ Below w.heap.size w w':=by
  have HE:=Lib.hid hE
  have HD:=Lib.hid h
  have HP:=Lib.hid hp
  have hn9:n ≤ 140737488355328:=h.2.2.2.2.1
  have HG:=Lib.hid hg
  have HDZ:=Lib.hid hd
  clear hE h hg hp hd
  go_enter Tryz.func3,Tryz.ntmps3
  go_wp2_with fail
  refine (texts_any D A n c w HD.out).mono ?_
  rintro ev w' ⟨t,rfl,ht9,ht,rfl⟩
  have HT0:=Lib.hid ht
  clear ht
  go_wp2_with fail
  refine (beyond4 n t d.size m w (by omega) ht9 HDZ.out hm).mono ?_
  rintro ev w1 ⟨rfl,hw1⟩
  have b1:Below w.heap.size w w1:=by rw [hw1];exact (Below.refl _ _).alloc (Nat.le_refl _) _
  clear hw1
  have hgd:decide (1048576 < n+t+d.size+m) = true:=by have:=HT0.out;have:=HG.out;simp;omega
  rw [hgd]
  go_wp2
  go_ret
  exact ⟨rfl,b1⟩

set_option maxRecDepth 100000 in
set_option maxHeartbeats 16000000 in
theorem fis_gen0 (a : Nat → Addr) (B : Nat) (D : List ByteArray) (d : ByteArray) (P : List (List UInt8)) (A : Option Addr) (n c X Z : Nat) (G : Option Addr) (m g : Nat) (w : World) (hE : Env B a w) (h : SIn w A n c D) (hX : X < 18446744073709551616) (hZ : Z < 18446744073709551616) (hd : d.size ≤ 9000000000000000000) (hp : HIn w G m g P) (hm : m ≤ 9000000000000000000) (hg : n + bulk D + d.size + m ≤ 1048576) (s u : ByteArray)
    (hF:∀ (base b:Nat) (v:Value) (A':Option Addr) (c':Nat) (w':World),Env B a w' → LogAt base b v (keptL D) w' → HIn w' A' m c' P → Calls Tryz.prog 9 #[.pointer (some ⟨b,0,none⟩),.int .u64 X,.int .u64 Z,.string d,.slice A' m c'] w' fun ev w2 => ev = .returned (.tuple #[.string s,.string u,.bool false]) ∧ Below w'.heap.size w' w2)
    (hR:∀ (base b2:Nat) (v2:Value) (w':World),RLogAt base b2 v2 (keptL D) w' → HIn w' G m g P → Calls Tryz.prog 10 #[.pointer (some ⟨b2,0,none⟩),.int .u64 X,.int .u64 Z,.string d,.slice G m g] w' fun ev w2 => ev = .returned (.tuple #[.string s,.string u,.bool false]) ∧ Below w'.heap.size w' w2) :
    Calls Tryz.prog 3 #[.slice A n c,.int .u64 X,.int .u64 Z,.string d,.slice G m g] w fun ev w' => ev = .returned (.bool true) ∧ Below w.heap.size w w':=by
  have HF:=Lib.hid hF
  have hp2:P.length = m:=hp.2.1
  have HRR:=Lib.hid hR
  clear hF hR
  have HE:=Lib.hid hE
  have HD:=Lib.hid h
  have HP:=Lib.hid hp
  have hn9:n ≤ 140737488355328:=h.2.2.2.2.1
  have HG:=Lib.hid hg
  have HDZ:=Lib.hid hd
  clear hE h hg hp hd
  go_enter Tryz.func3,Tryz.ntmps3
  go_wp2_with fail
  refine (texts_any D A n c w HD.out).mono ?_
  rintro ev w' ⟨t,rfl,ht9,ht,rfl⟩
  have HT0:=Lib.hid ht
  clear ht
  go_wp2_with fail
  refine (beyond4 n t d.size m w (by omega) ht9 HDZ.out hm).mono ?_
  rintro ev w1 ⟨rfl,hw1⟩
  have b1:Below w.heap.size w w1:=by rw [hw1];exact (Below.refl _ _).alloc (Nat.le_refl _) _
  clear hw1
  have hgd:decide (1048576 < n+t+d.size+m) = false:=by have:=HT0.out;have:=HG.out;simp;omega
  have hn10:n ≤ 1048576:=by have:=HG.out;omega
  have hdm:m ≤ 1048576:=by have:=HG.out;omega
  rw [hgd]
  go_wp2_with fail
  refine (logs20_both a B D A n c w1 (HE.out.step b1) (HD.out.below b1) hn10).mono ?_
  rintro ev w2 ⟨b,v,b2,v2,rfl,hL2,hR2,bb⟩
  have HL2:=Lib.hid hL2
  have HR2:=Lib.hid hR2
  have HB2:Hid (Below w.heap.size w w2):=Lib.hid (b1.trans (bb.mono b1.size))
  have HE2:=Lib.hid (HE.out.step HB2.out)
  have HP2:=Lib.hid (HP.out.below HB2.out)
  have HCw2:Hid (Below w2.heap.size w2 w2):=Lib.hid (Below.refl _ _)
  have HLV:=Lib.hid (lives20_any a B)
  have HPL:=Lib.hid hp2
  clear hL2 hR2 b1 bb hp2
  obtain ⟨base,hbase⟩:∃ z,w1.heap.size = z:=⟨_,rfl⟩
  rw [hbase] at HL2 HR2
  clear hbase
  have he1:(s == s) = true:=(Go.MapKept.bytes_beq s s).2 rfl
  have he2:(u == u) = true:=(Go.MapKept.bytes_beq u u).2 rfl
  go_wp2_with fail
  refine (twin_any G m g P w2 HP2.out hdm).mono ?_
  rintro ev w3 ⟨rfl,hT,bb⟩
  have HTW:=Lib.hid hT
  have HCw3:Hid (Below w2.heap.size w2 w3):=Lib.hid (HCw2.out.trans (bb.mono HCw2.out.size))
  have Sw3:Hid (Below w2.heap.size w2 w3):=Lib.hid bb
  clear bb
  clear hT
  go_wp2_with fail
  refine (HF.out base b v (some ⟨w2.heap.size,0,none⟩) (m+1) w3 (HE2.out.step HCw3.out) (HL2.out.below HCw3.out) (HTW.out.hin HPL.out hdm)).mono ?_
  rintro ev w4 ⟨rfl,bb⟩
  have HTW4:=Lib.hid (HTW.out.below bb)
  have HCw4:Hid (Below w2.heap.size w2 w4):=Lib.hid (HCw3.out.trans (bb.mono HCw3.out.size))
  have Sw4:Hid (Below w3.heap.size w3 w4):=Lib.hid bb
  clear bb
  go_wp2_with fail
  refine (HRR.out base b2 v2 w4 (HR2.out.below HCw4.out) (HP2.out.below HCw4.out)).mono ?_
  rintro ev w5 ⟨rfl,bb⟩
  have HTW5:=Lib.hid (HTW4.out.below bb)
  have HCw5:Hid (Below w2.heap.size w2 w5):=Lib.hid (HCw4.out.trans (bb.mono HCw4.out.size))
  have Sw5:Hid (Below w4.heap.size w4 w5):=Lib.hid bb
  clear bb
  go_wp2_with fail
  refine (left_any w2.heap.size m g G P w5 HTW5.out (HP2.out.below HCw5.out) hdm).mono ?_
  rintro ev w6 ⟨rfl,bb⟩
  have HCw6:Hid (Below w2.heap.size w2 w6):=Lib.hid (HCw5.out.trans (bb.mono HCw5.out.size))
  have Sw6:Hid (Below w5.heap.size w5 w6):=Lib.hid bb
  clear bb
  go_wp2_with fail
  refine (HLV.out w6 (HE2.out.step HCw6.out)).mono ?_
  rintro ev w' ⟨rfl,bb⟩
  go_wp2
  go_ret
  exact ⟨rfl,HB2.out.trans ((HCw6.out.trans (bb.mono HCw6.out.size)).mono HB2.out.size)⟩

set_option maxRecDepth 100000 in
set_option maxHeartbeats 16000000 in
theorem fis_gen1 (a : Nat → Addr) (B : Nat) (D : List ByteArray) (d : ByteArray) (P : List (List UInt8)) (A : Option Addr) (n c X Z : Nat) (G : Option Addr) (m g : Nat) (w : World) (hE : Env B a w) (h : SIn w A n c D) (hX : X < 18446744073709551616) (hZ : Z < 18446744073709551616) (hd : d.size ≤ 9000000000000000000) (hp : HIn w G m g P) (hm : m ≤ 9000000000000000000) (hg : n + bulk D + d.size + m ≤ 1048576) (s u : ByteArray)
    (hF:∀ (base b:Nat) (v:Value) (A':Option Addr) (c':Nat) (w':World),Env B a w' → LogAt base b v (keptL D) w' → HIn w' A' m c' P → Calls Tryz.prog 9 #[.pointer (some ⟨b,0,none⟩),.int .u64 X,.int .u64 Z,.string d,.slice A' m c'] w' fun ev w2 => ev = .returned (.tuple #[.string s,.string u,.bool true]) ∧ Below w'.heap.size w' w2)
    (hR:∀ (base b2:Nat) (v2:Value) (w':World),RLogAt base b2 v2 (keptL D) w' → HIn w' G m g P → Calls Tryz.prog 10 #[.pointer (some ⟨b2,0,none⟩),.int .u64 X,.int .u64 Z,.string d,.slice G m g] w' fun ev w2 => ev = .returned (.tuple #[.string s,.string u,.bool true]) ∧ Below w'.heap.size w' w2) :
    Calls Tryz.prog 3 #[.slice A n c,.int .u64 X,.int .u64 Z,.string d,.slice G m g] w fun ev w' => ev = .returned (.bool true) ∧ Below w.heap.size w w':=by
  have HF:=Lib.hid hF
  have hp2:P.length = m:=hp.2.1
  have HRR:=Lib.hid hR
  clear hF hR
  have HE:=Lib.hid hE
  have HD:=Lib.hid h
  have HP:=Lib.hid hp
  have hn9:n ≤ 140737488355328:=h.2.2.2.2.1
  have HG:=Lib.hid hg
  have HDZ:=Lib.hid hd
  clear hE h hg hp hd
  go_enter Tryz.func3,Tryz.ntmps3
  go_wp2_with fail
  refine (texts_any D A n c w HD.out).mono ?_
  rintro ev w' ⟨t,rfl,ht9,ht,rfl⟩
  have HT0:=Lib.hid ht
  clear ht
  go_wp2_with fail
  refine (beyond4 n t d.size m w (by omega) ht9 HDZ.out hm).mono ?_
  rintro ev w1 ⟨rfl,hw1⟩
  have b1:Below w.heap.size w w1:=by rw [hw1];exact (Below.refl _ _).alloc (Nat.le_refl _) _
  clear hw1
  have hgd:decide (1048576 < n+t+d.size+m) = false:=by have:=HT0.out;have:=HG.out;simp;omega
  have hn10:n ≤ 1048576:=by have:=HG.out;omega
  have hdm:m ≤ 1048576:=by have:=HG.out;omega
  rw [hgd]
  go_wp2_with fail
  refine (logs20_both a B D A n c w1 (HE.out.step b1) (HD.out.below b1) hn10).mono ?_
  rintro ev w2 ⟨b,v,b2,v2,rfl,hL2,hR2,bb⟩
  have HL2:=Lib.hid hL2
  have HR2:=Lib.hid hR2
  have HB2:Hid (Below w.heap.size w w2):=Lib.hid (b1.trans (bb.mono b1.size))
  have HE2:=Lib.hid (HE.out.step HB2.out)
  have HP2:=Lib.hid (HP.out.below HB2.out)
  have HCw2:Hid (Below w2.heap.size w2 w2):=Lib.hid (Below.refl _ _)
  have HLV:=Lib.hid (lives20_any a B)
  have HPL:=Lib.hid hp2
  clear hL2 hR2 b1 bb hp2
  obtain ⟨base,hbase⟩:∃ z,w1.heap.size = z:=⟨_,rfl⟩
  rw [hbase] at HL2 HR2
  clear hbase
  have he1:(s == s) = true:=(Go.MapKept.bytes_beq s s).2 rfl
  have he2:(u == u) = true:=(Go.MapKept.bytes_beq u u).2 rfl
  go_wp2_with fail
  refine (twin_any G m g P w2 HP2.out hdm).mono ?_
  rintro ev w3 ⟨rfl,hT,bb⟩
  have HTW:=Lib.hid hT
  have HCw3:Hid (Below w2.heap.size w2 w3):=Lib.hid (HCw2.out.trans (bb.mono HCw2.out.size))
  have Sw3:Hid (Below w2.heap.size w2 w3):=Lib.hid bb
  clear bb
  clear hT
  go_wp2_with fail
  refine (HF.out base b v (some ⟨w2.heap.size,0,none⟩) (m+1) w3 (HE2.out.step HCw3.out) (HL2.out.below HCw3.out) (HTW.out.hin HPL.out hdm)).mono ?_
  rintro ev w4 ⟨rfl,bb⟩
  have HTW4:=Lib.hid (HTW.out.below bb)
  have HCw4:Hid (Below w2.heap.size w2 w4):=Lib.hid (HCw3.out.trans (bb.mono HCw3.out.size))
  have Sw4:Hid (Below w3.heap.size w3 w4):=Lib.hid bb
  clear bb
  go_wp2_with fail
  refine (HRR.out base b2 v2 w4 (HR2.out.below HCw4.out) (HP2.out.below HCw4.out)).mono ?_
  rintro ev w5 ⟨rfl,bb⟩
  have HTW5:=Lib.hid (HTW4.out.below bb)
  have HCw5:Hid (Below w2.heap.size w2 w5):=Lib.hid (HCw4.out.trans (bb.mono HCw4.out.size))
  have Sw5:Hid (Below w4.heap.size w4 w5):=Lib.hid bb
  clear bb
  go_wp2_with fail
  refine (left_any w2.heap.size m g G P w5 HTW5.out (HP2.out.below HCw5.out) hdm).mono ?_
  rintro ev w6 ⟨rfl,bb⟩
  have HCw6:Hid (Below w2.heap.size w2 w6):=Lib.hid (HCw5.out.trans (bb.mono HCw5.out.size))
  have Sw6:Hid (Below w5.heap.size w5 w6):=Lib.hid bb
  clear bb
  go_wp2_with fail
  refine (HLV.out w6 (HE2.out.step HCw6.out)).mono ?_
  rintro ev w' ⟨rfl,bb⟩
  go_wp2
  go_ret
  exact ⟨rfl,HB2.out.trans ((HCw6.out.trans (bb.mono HCw6.out.size)).mono HB2.out.size)⟩

theorem fis_all (a : Nat → Addr) (B : Nat) (D : List ByteArray) (d : ByteArray) (P : List (List UInt8)) (A : Option Addr) (n c X Z : Nat) (G : Option Addr) (m g : Nat) (w : World) (hE : Env B a w) (h : SIn w A n c D) (hX : X < 18446744073709551616) (hZ : Z < 18446744073709551616) (hd : d.size ≤ 9000000000000000000) (hp : HIn w G m g P) (hm : m ≤ 9000000000000000000) (hg : n + bulk D + d.size + m ≤ 1048576) :
    Calls Tryz.prog 3 #[.slice A n c,.int .u64 X,.int .u64 Z,.string d,.slice G m g] w fun ev w' => ev = .returned (.bool true) ∧ Below w.heap.size w w':=by
  have hdd:d.size ≤ 10000000:=by omega
  have hm9:m ≤ 1000000000:=by omega
  by_cases hz:Z ≤ (keptL D).length
  · by_cases hv:X < Z ∧ verP X Z (keptL D) d P
    · by_cases hsm:(keptL D)[X]? = some d
      · exact fis_gen0 a B D d P A n c X Z G m g w hE h hX hZ hd hp hm hg (strOf (soB (keptL D) Z)) (strOf (soB (keptL D) Z))
          (fun base b v A' c' w' e hl hi => (fincl_same a B base b v _ X Z d P A' m c' w' e hl hz (by omega) hi hm9 hv.1 hv.2 hsm).mono (fun ev w2 ⟨⟨s,q1,q2⟩,q3⟩ => ⟨by rw [q1,← q2,strOf_bOf],q3⟩))
          (fun base b2 v2 w' hr hi => in20_same base b2 v2 _ X Z d P G m g w' hr hz hX hdd hi hm9 hv.1 hv.2 hsm)
      · have hlen:=hv.2.1
        have hbr:=path_bare X Z P hv.1 (by have:=keptL_len D D.length;rw [List.take_length] at this;have:=h.1;omega) hlen
        cases q:fWalk (saidL ((pathL 64 X 0 Z).zip P)) (claimLeaf [d] X) (keptL D) (logText (keptL D)) (claimText [d] X) 64 0 Z with
        | none =>
          exact fis_gen0 a B D d P A n c X Z G m g w hE h hX hZ hd hp hm hg ⟨#[]⟩ ⟨#[]⟩
            (fun base b v A' c' w' e hl hi => by
              have:=fincl_part a B base b v _ X Z d P A' m c' w' e hl hz (by omega) hi hm9 hv.1 hv.2 hsm hbr
              rw [q] at this;exact this)
            (fun base b2 v2 w' hr hi => by
              have:=in20_part base b2 v2 _ X Z d P G m g w' hr hz hX hdd hi hm9 hv.1 hv.2 hsm hbr
              rw [q] at this;exact this)
        | some r =>
          exact fis_gen1 a B D d P A n c X Z G m g w hE h hX hZ hd hp hm hg (strOf r.1) (strOf r.2)
            (fun base b v A' c' w' e hl hi => by
              have:=fincl_part a B base b v _ X Z d P A' m c' w' e hl hz (by omega) hi hm9 hv.1 hv.2 hsm hbr
              rw [q] at this
              exact this.mono (fun ev w2 ⟨⟨s,t,q1,q2,q3⟩,q4⟩ => ⟨by rw [q1,← q2,← q3,strOf_bOf,strOf_bOf],q4⟩))
            (fun base b2 v2 w' hr hi => by
              have:=in20_part base b2 v2 _ X Z d P G m g w' hr hz hX hdd hi hm9 hv.1 hv.2 hsm hbr
              rw [q] at this;exact this)
    · exact fis_gen0 a B D d P A n c X Z G m g w hE h hX hZ hd hp hm hg ⟨#[]⟩ ⟨#[]⟩
        (fun base b v A' c' w' e hl hi => fincl_bad a B base b v _ X Z d P A' m c' w' e hl hz (by omega) hi hm9 hv)
        (fun base b2 v2 w' hr hi => in20_bad base b2 v2 _ X Z d P G m g w' hr hz hX hdd hi hm9 hv)
  · exact fis_gen0 a B D d P A n c X Z G m g w hE h hX hZ hd hp hm hg ⟨#[]⟩ ⟨#[]⟩
      (fun base b v A' c' w' e hl hi => finc_none (.pointer (some ⟨b,0,none⟩)) X Z d A' m c' w' (a 5) (fun w2 hb => lroot_over a B base b v _ Z w2 (e.step hb) (hl.below hb) (by omega) (by omega)))
      (fun base b2 v2 w' hr hi => in20_over base b2 v2 _ X Z d P G m g w' hr (by omega) (by omega))
end Go.Proofs.YtpdkpdpkggepcaaGreatDoor

