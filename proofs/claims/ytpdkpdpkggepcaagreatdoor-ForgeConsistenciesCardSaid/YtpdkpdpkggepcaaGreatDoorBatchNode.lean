/- batch.walk.says: any stretch, whoever is told of the nodes (Note). -/
import Derived.Test.YtpdkpdpkggepcaaGreatDoorBatchLeaf
import Derived.Test.YtpdkpdpkggepcaaGreatDoorNotePlain
import Derived.BigRegion
import Derived.Deep.DeepCutAuto
namespace Go.Proofs.YtpdkpdpkggepcaaGreatDoor
open Go.ChangeShapes Go.WideShapes Go.ChangeAt Go.RowKit
set_option maxRecDepth 100000
set_option maxHeartbeats 4000000
open Lib (hid)
set_option linter.unusedVariables false
def HAt (w:World) (A:Option Addr) (base:Nat) (l:List (List UInt8)):Prop:=l = [] ∨ ∃ g o,A = some ⟨g,o,none⟩ ∧ w.rangeAt g o (hashCells l) ∧ g < base
theorem HAt.same {w w':World} {A:Option Addr} {base:Nat} {l:List (List UInt8)} (h:HAt w A base l) (hb:∀ g,g < base → g < w.heap.size → w'.heap[g]? = w.heap[g]?) (h32:H32 l):HAt w' A base l:=by
 rcases h with h | ⟨g,o,h1,h2,h3⟩
 ·exact .inl h
 ·by_cases hl:l = []
  ·exact .inl hl
  ·refine .inr ⟨g,o,h1,rangeAt_block (hb g h3 (rangeAt_lt h2 (fun e => ?_))) h2,h3⟩
   have:=hashCells_length h32
   rw [e] at this
   cases l with
   | nil => exact hl rfl
   | cons x r => simp at this
def leafAt (x:Int) (L:List (List UInt8)) (i:Int):List UInt8:=L.getD (i - x).toNat []
structure Noted {σ β:Type} (base W:Nat) (Inv:σ → World → Prop) (T:σ → Nat → Prop) (ab:σ → β):Prop where
 low:∀ s w k,Inv s w → T s k → base ≤ k ∧ k < w.heap.size ∧ k ≠ W
 keep:∀ s w w',Inv s w → w.heap.size ≤ w'.heap.size → (∀ k,T s k → w'.heap[k]? = w.heap[k]?) → Inv s w'
def SaysPre {σ:Type} (base W:Nat) (x:Int) (lA:Option Addr) (L:List (List UInt8)) (lcap:Nat) (nt:Value) (Inv:σ → World → Prop) (A:Option Addr) (c:Nat) (ps:List (List UInt8)) (w:World) (s:σ):Prop :=
 WalkAt w W x (.slice lA L.length lcap) (.slice A ps.length c) nt ∧ HAt w lA base L ∧ HAt w A base ps ∧ H32 ps ∧ ps.length ≤ c ∧ c ≤ 9223372036854775807 ∧ KTab 16 w ∧ Inv s w
def NFrame {σ:Type} (W:Nat) (T:σ → Nat → Prop) (w:World) (s:σ) (w':World) (s':σ):Prop :=
 But (fun k => k = W ∨ T s k) w w' ∧ ∀ k,T s' k → T s k ∨ w.heap.size ≤ k
theorem NFrame.trans {σ:Type} {W:Nat} {T:σ → Nat → Prop} {a b c:World} {s t u:σ} (h:NFrame W T a s b t) (k:NFrame W T b t c u):NFrame W T a s c u :=
 ⟨h.1.step k.1 (fun i hi q => by
  rcases q with q | q
  ·exact .inl q
  ·rcases h.2 i q with q | q
   ·exact .inr q
   ·omega),fun i hi => by
  rcases k.2 i hi with q | q
  ·exact h.2 i q
  ·exact .inr (Nat.le_trans h.1.size q)⟩
theorem NFrame.but {σ:Type} {W:Nat} {T:σ → Nat → Prop} {a b:World} {s:σ} (h:But (· = W) a b):NFrame W T a s b s :=
 ⟨h.mono (fun _ _ q => .inl q),fun _ q => .inl q⟩
theorem SaysPre.step {σ:Type} {base W:Nat} {x:Int} {lA:Option Addr} {L:List (List UInt8)} {lcap:Nat} {nt:Value} {Inv:σ → World → Prop} {A:Option Addr} {c:Nat} {ps:List (List UInt8)} {w w':World} {s s':σ} {S:Nat → Prop}
 (h:SaysPre base W x lA L lcap nt Inv A c ps w s) (hL:H32 L) (hK:16 < base) (hb:But S w w') (hS1:¬ S W) (hS2:∀ k,S k → base ≤ k) (hI:Inv s' w'):SaysPre base W x lA L lcap nt Inv A c ps w' s':=by
 obtain ⟨h1,h2,h3,h4,h5,h6,h7,h8⟩:=h
 have hs:∀ g,g < base → g < w.heap.size → w'.heap[g]? = w.heap[g]?:=fun g hg hl => hb.same g hl (fun q => by have:=hS2 g q;omega)
 exact ⟨(hb.same W (Array.getElem?_eq_some_iff.1 h1).1 hS1).trans h1,h2.same hs hL,h3.same hs h4,h4,h5,h6,h7.but hb (fun q => by have:=hS2 _ q;omega),hI⟩
theorem SaysPre.new {σ β:Type} {base W:Nat} {x:Int} {lA:Option Addr} {L:List (List UInt8)} {lcap:Nat} {nt:Value} {Inv:σ → World → Prop} {T:σ → Nat → Prop} {ab:σ → β} {A:Option Addr} {c:Nat} {ps:List (List UInt8)} {w w':World} {s:σ}
 (h:SaysPre base W x lA L lcap nt Inv A c ps w s) (hL:H32 L) (hK:16 < base) (hNd:Noted base W Inv T ab) (hb:Below w.heap.size w w'):SaysPre base W x lA L lcap nt Inv A c ps w' s :=
 h.step (S:=fun _ => False) hL hK (But.new hb) (fun q => q) (fun _ q => q.elim) (hNd.keep s w w' h.2.2.2.2.2.2.2 hb.size (fun k q => hb.block k (hNd.low s w k h.2.2.2.2.2.2.2 q).2.1))
theorem NFrame.new {σ:Type} {W:Nat} {T:σ → Nat → Prop} {a b:World} {s:σ} (h:Below a.heap.size a b):NFrame W T a s b s:=NFrame.but (But.new h)
theorem NFrame.own {σ:Type} {W:Nat} {T:σ → Nat → Prop} {a b:World} {s t:σ} (h:NFrame W T a s b t) {k:Nat} (hk:k < a.heap.size) (hW:k ≠ W) (hT:¬ T s k) {o:Obj} (ho:a.heap[k]? = some o):b.heap[k]? = some o :=
 (h.1.same k hk (fun q => q.elim hW hT)).trans ho
def SaysPost {σ β:Type} (base W:Nat) (x:Int) (lA:Option Addr) (L:List (List UInt8)) (lcap:Nat) (nt:Value) (Inv:σ → World → Prop) (T:σ → Nat → Prop) (ab:σ → β) (w:World) (s:σ) (r:List UInt8 × List (List UInt8)) (o:β) (ev:Ending) (w':World):Prop :=
 ev = .returned (hv r.1) ∧ r.1.length = 32 ∧ ∃ A c s',SaysPre base W x lA L lcap nt Inv A c r.2 w' s' ∧ ab s' = o ∧ NFrame W T w s w' s'
def NoteOKNote {σ β:Type} (Inv:σ → World → Prop) (T:σ → Nat → Prop) (ab:σ → β) (step:β → Int → Int → Int → List UInt8 → List UInt8 → β) (G:β → Prop):Prop :=
 ∀ (w:World) (s:σ) (b m e:Int) (p q:List UInt8),0 ≤ b → b < m → m < e → e ≤ 9223372036854775808 → p.length = 32 → q.length = 32 → Inv s w → G (step (ab s) b m e p q) →
  Calls Tryz.prog 118 #[.agg #[.int .u64 b,.int .u64 m],.agg #[.int .u64 m,.int .u64 e],hv p,hv q] w fun ev w' => ev = .returned (.tuple #[]) ∧ ∃ s',ab s' = step (ab s) b m e p q ∧ Inv s' w' ∧ But (T s) w w' ∧ ∀ k,T s' k → T s k ∨ w.heap.size ≤ k
def SaysOKNote {σ β:Type} (base W:Nat) (x:Int) (lA:Option Addr) (L:List (List UInt8)) (lcap:Nat) (Inv:σ → World → Prop) (T:σ → Nat → Prop) (ab:σ → β) (step:β → Int → Int → Int → List UInt8 → List UInt8 → β) (G:β → Prop) (f:Nat):Prop :=
 ∀ (b e:Int) (A:Option Addr) (c:Nat) (ps:List (List UInt8)) (w:World) (s:σ),SaysPre base W x lA L lcap (.func (.func 118) #[] #[]) Inv A c ps w s →
  0 ≤ b → b < e → e ≤ 9223372036854775808 → e - b ≤ pow2 f → (batchL f x (x+L.length) b e).length ≤ ps.length → G (noteF nodeH step f x (x+L.length) (leafAt x L) b e ps (ab s)) →
  Calls Tryz.prog 112 #[.pointer (some ⟨W,0,none⟩),.agg #[.int .u64 b,.int .u64 e]] w (SaysPost base W x lA L lcap (.func (.func 118) #[] #[]) Inv T ab w s (sayF nodeH f x (x+L.length) (leafAt x L) b e ps) (noteF nodeH step f x (x+L.length) (leafAt x L) b e ps (ab s)))
theorem bsays_nodeNote {σ β:Type} (base W:Nat) (x:Int) (lA:Option Addr) (L:List (List UInt8)) (lcap:Nat) (Inv:σ → World → Prop) (T:σ → Nat → Prop) (ab:σ → β) (step:β → Int → Int → Int → List UInt8 → List UInt8 → β) (G:β → Prop) (hGd:∀ o b m e p q,G (step o b m e p q) → G o)
 (hL32:H32 L) (hx0:0 ≤ x) (hlc:L.length ≤ lcap) (hlcm:lcap ≤ 9223372036854775807) (hKW:16 < base) (hbW:base ≤ W) (hNd:Noted base W Inv T ab) (hN:NoteOKNote Inv T ab step G) (f:Nat) (ih:SaysOKNote base W x lA L lcap Inv T ab step G f)
 (b e:Int) (A:Option Addr) (c:Nat) (ps:List (List UInt8)) (w:World) (s:σ) (hS:SaysPre base W x lA L lcap (.func (.func 118) #[] #[]) Inv A c ps w s)
 (hb:0 ≤ b) (he:b < e) (hem:e ≤ 9223372036854775808) (hp:e - b ≤ pow2 (f+1)) (hbl:(batchL (f+1) x (x+L.length) b e).length ≤ ps.length) (ho:¬ (e ≤ x ∨ x+L.length ≤ b)) (hs2:¬ e - b < 2) (hGf:G (noteF nodeH step (f+1) x (x+L.length) (leafAt x L) b e ps (ab s))) :
 Calls Tryz.prog 112 #[.pointer (some ⟨W,0,none⟩),.agg #[.int .u64 b,.int .u64 e]] w (SaysPost base W x lA L lcap (.func (.func 118) #[] #[]) Inv T ab w s (sayF nodeH (f+1) x (x+L.length) (leafAt x L) b e ps) (noteF nodeH step (f+1) x (x+L.length) (leafAt x L) b e ps (ab s))):=by
 have hbd:=blwI_bd (n:=e - b) (by omega)
 have hkp:=blwI_le_pow (n:=e - b) (f:=f) (by omega) hp
 obtain ⟨m,hm⟩:∃ m,b+blwI (e - b) = m:=⟨_,rfl⟩
 have hm1:b < m:=by omega
 have hm2:m < e:=by omega
 have hmp1:m - b ≤ pow2 f:=by omega
 have hmp2:e - m ≤ pow2 f:=by omega
 have hlen:(batchL f x (x+L.length) b m).length ≤ ps.length ∧ (batchL f x (x+L.length) m e).length ≤ (sayF nodeH f x (x+L.length) (leafAt x L) b m ps).2.length:=by
  by_cases hi:x ≤ b ∧ e ≤ x+L.length
  ·rw [batchL_in (by omega) (by omega),batchL_in (by omega) (by omega)];exact ⟨by simp,by simp⟩
  ·rw [batchL_half ho hi,hm,List.length_append] at hbl
   have h1:=sayF_rest nodeH f x (x+L.length) (leafAt x L) b m ps hm1 hmp1 (by omega)
   rw [h1,List.length_drop];omega
 rw [noteF_node nodeH step ho hs2,hm] at hGf
 rw [sayF_node nodeH ho hs2,noteF_node nodeH step ho hs2,hm]
 obtain ⟨r1,hr1⟩:∃ r1,sayF nodeH f x (x+L.length) (leafAt x L) b m ps = r1:=⟨_,rfl⟩
 have ih1:=fun w s h => ih b m A c ps w s h hb hm1 (by omega) hmp1 hlen.1
 rw [hr1] at hlen ih1 hGf ⊢
 have ih2:=fun A c w s h => ih m e A c r1.2 w s h (by omega) hm2 hem hmp2 hlen.2
 obtain ⟨r2,hr2⟩:∃ r2,sayF nodeH f x (x+L.length) (leafAt x L) m e r1.2 = r2:=⟨_,rfl⟩
 rw [hr2] at ih2 hGf ⊢
 have hG2:=hGd _ _ _ _ _ _ hGf
 have hG1:=noteF_down nodeH step hGd _ _ _ _ _ _ _ _ hG2
 obtain ⟨n1,hn1⟩:∃ n1:β → β,(fun o => noteF nodeH step f x (x+L.length) (leafAt x L) b m ps o) = n1:=⟨_,rfl⟩
 obtain ⟨n2,hn2⟩:∃ n2:β → β,(fun o => noteF nodeH step f x (x+L.length) (leafAt x L) m e r1.2 o) = n2:=⟨_,rfl⟩
 have ih1:∀ w s,SaysPre base W x lA L lcap (.func (.func 118) #[] #[]) Inv A c ps w s → G (n1 (ab s)) → Calls Tryz.prog 112 #[.pointer (some ⟨W,0,none⟩),.agg #[.int .u64 b,.int .u64 m]] w (SaysPost base W x lA L lcap (.func (.func 118) #[] #[]) Inv T ab w s r1 (n1 (ab s))):=by rw [← hn1];exact ih1
 have ih2:∀ A c w s,SaysPre base W x lA L lcap (.func (.func 118) #[] #[]) Inv A c r1.2 w s → G (n2 (ab s)) → Calls Tryz.prog 112 #[.pointer (some ⟨W,0,none⟩),.agg #[.int .u64 m,.int .u64 e]] w (SaysPost base W x lA L lcap (.func (.func 118) #[] #[]) Inv T ab w s r2 (n2 (ab s))):=by rw [← hn2];exact ih2
 have hfin:noteF nodeH step f x (x+L.length) (leafAt x L) m e r1.2 (noteF nodeH step f x (x+L.length) (leafAt x L) b m ps (ab s)) = n2 (n1 (ab s)):=by rw [← hn1,← hn2]
 rw [hfin] at hGf ⊢
 rw [hfin] at hG2
 replace hG1:G (n1 (ab s)):=by rw [← hn1];exact hG1
 have HGG:=hid (And.intro hGf (And.intro hG2 hG1))
 clear hGf hG2 hG1
 clear hfin hn1 hn2 hr1 hr2 hlen hbl hp hkp hmp1 hmp2 ih
 have hW:=hS.1
 have c0:w.cell? ⟨W,0,none⟩ = some (.int .u64 x):=by rw [cell_of_row w W 0 _ 197 (0,0) hW];rfl
 have c1:w.cell? ⟨W,1,none⟩ = some (.slice lA L.length lcap):=by rw [cell_of_row w W 1 _ 197 (0,0) hW];rfl
 have hWl:W < w.heap.size:=(Array.getElem?_eq_some_iff.1 hW).1
 have hnx:x < e:=by omega
 have hyb:b < x+L.length:=by omega
 have hd:decide (e ≤ x) = false:=by simp;omega
 have hd2:decide (x+(L.length:Int) ≤ b) = false:=by simp;omega
 have hm8:(L.length:Int) < 18446744073709551616:=by omega
 have hm9:x+(L.length:Int) < 18446744073709551616:=by omega
 have HNX:=hid (And.intro hnx (And.intro hyb (And.intro ho hs2)))
 have HM:=hid hm
 have HS:=hid hS
 have hlow:∀ s w k,Inv s w → T s k → base ≤ k ∧ k < w.heap.size ∧ k ≠ W:=hNd.low
 have HLOW:=hid hlow
 have hbe:b ≤ e:=by omega
 have hbx:(Tryz.prog.info? 84).map (·.size) = some 2:=by kernel_rfl
 obtain ⟨wv,hwv⟩:∃ wv,(w.alloc (.cells #[.int .u64 b,.int .u64 e] 84)).alloc (.cells (List.replicate 32 (Value.int .u8 0)).toArray 39) = wv:=⟨_,rfl⟩
 have hBv:Below w.heap.size w wv:=by rw [← hwv];exact ((Below.refl _ _).alloc (Nat.le_refl _) _).alloc (by simp) _
 have hsv:wv.heap.size = w.heap.size+1+1:=by rw [← hwv];simp
 have hzv:wv.heap[w.heap.size+1]? = some (.cells (List.replicate 32 (Value.int .u8 0)).toArray 39 (0,0)):=by rw [← hwv];exact heap_at _ _ _ (by simp)
 have hsp:wv.heap[w.heap.size]? = some (.cells #[.int .u64 b,.int .u64 e] 84 (0,0)):=by rw [← hwv,((Below.refl _ (w.alloc (.cells #[.int .u64 b,.int .u64 e] 84))).alloc (Nat.le_refl _) _).block _ (by simp)];exact heap_at _ _ _ rfl
 have s0:wv.cell? ⟨w.heap.size,0,none⟩ = some (.int .u64 b):=by rw [cell_of_row wv w.heap.size 0 _ 84 (0,0) hsp];rfl
 have s1:wv.cell? ⟨w.heap.size,1,none⟩ = some (.int .u64 e):=by rw [cell_of_row wv w.heap.size 1 _ 84 (0,0) hsp];rfl
 have v0:=cell_below hBv c0 hWl
 have v1:=cell_below hBv c1 hWl
 have HBv:=hid hBv
 have HWV:=hid (show (w.alloc (.cells #[.int .u64 b,.int .u64 e] 84)).alloc (.cells (List.replicate 32 (Value.int .u8 0)).toArray 39) = wv from hwv)
 simp only [List.replicate,List.toArray] at HWV
 have HSV:=hid hsv
 have HZV:=hid hzv
 clear hW hwv hBv hsv hzv hsp c0 c1 hnx hyb hS ho hs2 hm hlow
 have hWv:W < wv.heap.size:=by have:=HBv.out.size;omega
 have hsw:w.heap.size < wv.heap.size:=by have:=HSV.out;omega
 go_enter Tryz.func112,Tryz.ntmps112
 go_wp2_with fail
 rw [HWV.out]
 go_quiet (fail)
 obtain ⟨wq,hwq⟩:∃ wq,wv.drewN nq = wq:=⟨_,rfl⟩
 have q0:wq.cell? ⟨W,0,none⟩ = some (.int .u64 x):=by rw [← hwq];exact v0
 have q2:wq.cell? ⟨w.heap.size,0,none⟩ = some (.int .u64 b):=by rw [← hwq];exact s0
 have q3:wq.cell? ⟨w.heap.size,1,none⟩ = some (.int .u64 e):=by rw [← hwq];exact s1
 have HBq:Hid (Below w.heap.size w wq):=hid (by rw [← hwq];exact below_drewN HBv.out)
 have HZq:Hid (wq.heap[w.heap.size+1]? = some (.cells (List.replicate 32 (Value.int .u8 0)).toArray 39 (0,0))):=hid (by rw [← hwq];exact HZV.out)
 have HSQ:Hid (wq.heap.size = w.heap.size+1+1):=hid (by rw [← hwq];exact HSV.out)
 have hWq:W < wq.heap.size:=by rw [← hwq];exact hWv
 have hsq:w.heap.size < wq.heap.size:=by rw [← hwq];exact hsw
 rw [hwq]
 clear hwq v0 v1 s0 s1
 go_wp2_with fail
 refine (split_yes _ _ (by have:=HNX.out;omega) (by omega)).mono ?_
 rintro ev w6 ⟨rfl,rfl⟩
 have hw1:IntKind.u64.wrap (b+blwI (e - b)) = m:=by rw [HM.out];exact IntWalk.u64_in _ (by omega)
 go_upto_region 8 with fail
 go_cut [8,9] (fun s8 s9 w8 => ∃ g8 g9:Nat,s8 = .pointer (some ⟨g8,0,none⟩) ∧ s9 = .pointer (some ⟨g9,0,none⟩) ∧ Hid (w.heap.size+1 < g8 ∧ w.heap.size+1 < g9 ∧ Below (w.heap.size+1+1) wq w8 ∧ w8.heap[g8]? = some (.cells #[.int .u64 b,.int .u64 m] 84 (0,0)) ∧ w8.heap[g9]? = some (.cells #[.int .u64 m,.int .u64 e] 84 (0,0))))
 case first =>
  skip
  go_region
  all_goals
   go_wp2_with fail
   go_meet
   refine ⟨_,_,rfl,rfl,hid ⟨by have:=HSQ.out;omega,by have:=HSQ.out;omega,?_,?_,?_⟩⟩
   ·exact (((Below.refl _ _).alloc (by have:=HSQ.out;omega) _).alloc (by have:=HSQ.out;simp;omega) _).drew
   ·first
     | exact heap_at _ _ _ (by simp)
     | (refine (((Below.refl _ _).alloc (Nat.le_refl _) _).block _ ?_).trans (heap_at _ _ _ rfl);simp)
   ·first
     | exact heap_at _ _ _ (by simp)
     | (refine (((Below.refl _ _).alloc (Nat.le_refl _) _).block _ ?_).trans (heap_at _ _ _ rfl);simp)
 case rest =>
  obtain ⟨g8,g9,rfl,rfl,H8⟩:=hcut
  have HB8:Hid (Below w.heap.size w wc):=hid (HBq.out.trans (H8.out.2.2.1.mono (by omega)))
  have HF8:Hid (NFrame W T w s wc s):=hid (NFrame.new HB8.out)
  have HS8:Hid (SaysPre base W x lA L lcap (.func (.func 118) #[] #[]) Inv A c ps wc s):=hid (HS.out.new hL32 hKW hNd HB8.out)
  have HT8:Hid (∀ k,w.heap.size ≤ k → ¬ T s k):=hid (fun k hk q => by have:=HLOW.out s w k HS.out.2.2.2.2.2.2.2 q;omega)
  have H1:Hid (wc.heap[w.heap.size+1]? = some (.cells (List.replicate 32 (Value.int .u8 0)).toArray 39 (0,0))):=hid ((H8.out.2.2.1.block _ (by omega)).trans HZq.out)
  have e0:wc.cell? ⟨g8,0,none⟩ = some (.int .u64 b):=by rw [cell_of_row wc g8 0 _ 84 (0,0) H8.out.2.2.2.1];rfl
  have e1:wc.cell? ⟨g8,1,none⟩ = some (.int .u64 m):=by rw [cell_of_row wc g8 1 _ 84 (0,0) H8.out.2.2.2.1];rfl
  have HL8:Hid (g8 < wc.heap.size ∧ g9 < wc.heap.size):=hid ⟨(Array.getElem?_eq_some_iff.1 H8.out.2.2.2.1).1,(Array.getElem?_eq_some_iff.1 H8.out.2.2.2.2).1⟩
  have HWl:=hid hWl
  obtain ⟨va,hva⟩:∃ va,(bytesV r1.1).toArray = va:=⟨_,rfl⟩
  have hvra:hv r1.1 = .agg va:=by rw [hv,hva]
  obtain ⟨vb,hvb⟩:∃ vb,(bytesV r2.1).toArray = vb:=⟨_,rfl⟩
  have hvrb:hv r2.1 = .agg vb:=by rw [hv,hvb]
  have HOa:=hid (show va.all (·.oneCell') = true by rw [← hva];exact bytesV_all _)
  have HOb:=hid (show vb.all (·.oneCell') = true by rw [← hvb];exact bytesV_all _)
  have HVa:=hid hva
  have HVb:=hid hvb
  clear hva hvb q0 q2 q3 hWq hsq hWl hWv hsw
  go_wp2_with fail
  refine (ih1 _ s HS8.out HGG.out.2.2).mono ?_
  rintro ev w9 ⟨rfl,hl1,A9,c9,s9,hS9,hab9,hF9⟩
  rw [hvra]
  have HSa:=hid (show va.size = 32 by rw [← HVa.out];simp [bytesV_length,hl1])
  have HIa:=hid (show (Tryz.prog.info? 39).map (·.size) = some va.size by rw [HSa.out];kernel_rfl)
  have H91:=hid (hF9.own (by have:=HL8.out;have:=H8.out;omega) (by have:=HWl.out;omega) (HT8.out _ (by omega)) H1.out)
  have H98:=hid (hF9.own HL8.out.1 (by have:=HWl.out;have:=H8.out;omega) (HT8.out _ (by have:=H8.out;omega)) H8.out.2.2.2.1)
  have H99:=hid (hF9.own HL8.out.2 (by have:=HWl.out;have:=H8.out;omega) (HT8.out _ (by have:=H8.out;omega)) H8.out.2.2.2.2)
  have HS9:=hid (And.intro hS9 (And.intro hab9 hl1))
  have HF9:=hid (HF8.out.trans hF9)
  have HT9:Hid (∀ k,w.heap.size ≤ k → k < wc.heap.size → ¬ T s9 k):=hid (fun k hk hk2 q => by
   rcases hF9.2 k q with q | q
   ·exact HT8.out k hk q
   ·omega)
  have HZ9:=hid hF9.1.size
  clear hS9 hab9 hl1 hF9 e0 e1
  go_wp2_with (first
   | (refine wpList_store_row_any rfl 39 _ _ rfl w9.heap.size va rfl rfl 39 _ (heap_at _ _ _ rfl) HIa.out (by rw [HSa.out];rfl) HOa.out ?_;intro w10 hb10 hg10 hs10;have HB10:=hid (((Below.refl _ w9).alloc (Nat.le_refl _) _).trans (hb10.to_below (by simp) (fun k hk q => by omega)));have HG10:=hid hg10;have HZ10:=hid hs10;clear hb10 hg10 hs10;have e0:w10.cell? ⟨g9,0,none⟩ = some (.int .u64 m):=(by rw [cell_of_row w10 g9 0 _ 84 (0,0) ((HB10.out.block g9 (by have:=HL8.out;have:=HZ9.out;omega)).trans H99.out)];rfl);have e1:w10.cell? ⟨g9,1,none⟩ = some (.int .u64 e):=(by rw [cell_of_row w10 g9 1 _ 84 (0,0) ((HB10.out.block g9 (by have:=HL8.out;have:=HZ9.out;omega)).trans H99.out)];rfl)))
  have HS10:=hid (HS9.out.1.new hL32 hKW hNd HB10.out)
  refine (ih2 A9 c9 _ s9 HS10.out (by rw [HS9.out.2.1];exact HGG.out.2.1)).mono ?_
  rintro ev w11 ⟨rfl,hl2,A11,c11,s11,hS11,hab11,hF11⟩
  rw [hvrb]
  have HSb:=hid (show vb.size = 32 by rw [← HVb.out];simp [bytesV_length,hl2])
  have HIb:=hid (show (Tryz.prog.info? 39).map (·.size) = some vb.size by rw [HSb.out];kernel_rfl)
  have hn9:∀ k,w.heap.size ≤ k → k < wc.heap.size → k ≠ W → ∀ o:Obj,w9.heap[k]? = some o → w11.heap[k]? = some o:=fun k h1 h2 h3 o h4 =>
   hF11.own (by have:=HB10.out.size;have:=HZ9.out;omega) h3 (HT9.out k h1 h2) ((HB10.out.block k (by have:=HZ9.out;omega)).trans h4)
  have H111:=hid (hn9 _ (by omega) (by have:=HL8.out;have:=H8.out;omega) (by have:=HWl.out;omega) _ H91.out)
  have H118:=hid (hn9 _ (by have:=H8.out;omega) HL8.out.1 (by have:=HWl.out;have:=H8.out;omega) _ H98.out)
  have H119:=hid (hn9 _ (by have:=H8.out;omega) HL8.out.2 (by have:=HWl.out;have:=H8.out;omega) _ H99.out)
  have H11a:=hid (hF11.own (k:=w9.heap.size) (by have:=HZ10.out;simp at this;omega) (by have:=HZ9.out;have:=HL8.out;have:=H8.out;have:=HWl.out;omega) (fun q => by have:=HLOW.out s9 w9 _ HS9.out.1.2.2.2.2.2.2.2 q;omega) HG10.out)
  have HF10:=hid (HF9.out.trans (NFrame.new HB10.out))
  have HF11:=hid (HF10.out.trans hF11)
  have HZ11:=hid hF11.1.size
  have HT11:Hid (∀ k,w.heap.size ≤ k → k < w10.heap.size → k ≠ w9.heap.size → ¬ T s11 k ∨ True):=hid (fun _ _ _ _ => .inr trivial)
  have HX11:Hid (∀ k,T s11 k → T s9 k ∨ w10.heap.size ≤ k):=hid hF11.2
  have HS11:=hid (And.intro hS11 (And.intro hab11 hl2))
  clear hS11 hab11 hl2 hF11 hn9 HT11 e0 e1
  go_wp2_with (first
   | (refine wpList_store_row_any rfl 39 _ _ rfl w11.heap.size vb rfl rfl 39 _ (heap_at _ _ _ rfl) HIb.out (by rw [HSb.out];rfl) HOb.out ?_;intro w12 hb12 hg12 hs12;have HB12:=hid (((Below.refl _ w11).alloc (Nat.le_refl _) _).trans (hb12.to_below (by simp) (fun k hk q => by omega)));have HG12:=hid hg12;have HZ12:=hid hs12;clear hb12 hg12 hs12))
  have HS12:=hid (HS11.out.1.new hL32 hKW hNd HB12.out)
  have HW12:=hid HS12.out.1
  have f3:w12.cell? ⟨W,3,none⟩ = some (.func (.func 118) #[] #[]):=by rw [cell_of_row w12 W 3 _ 197 (0,0) HW12.out];rfl
  have k8:=hid ((HB12.out.block g8 (by have:=HL8.out;have:=HZ9.out;have:=HB10.out.size;have:=HZ11.out;omega)).trans H118.out)
  have k9:=hid ((HB12.out.block g9 (by have:=HL8.out;have:=HZ9.out;have:=HB10.out.size;have:=HZ11.out;omega)).trans H119.out)
  have k1:=hid ((HB12.out.block (w.heap.size+1) (by have:=HL8.out;have:=H8.out;have:=HZ9.out;have:=HB10.out.size;have:=HZ11.out;omega)).trans H111.out)
  have ka:=hid ((HB12.out.block w9.heap.size (by have:=HZ10.out;simp at this;have:=HZ11.out;omega)).trans H11a.out)
  have kz:Hid (w12.heap.size = w11.heap.size+1):=hid (by have:=HZ12.out;simpa using this)
  have e0:w12.cell? ⟨g8,0,none⟩ = some (.int .u64 b):=by rw [cell_of_row w12 g8 0 _ 84 (0,0) k8.out];rfl
  have e1:w12.cell? ⟨g8,1,none⟩ = some (.int .u64 m):=by rw [cell_of_row w12 g8 1 _ 84 (0,0) k8.out];rfl
  have e2:w12.cell? ⟨g9,0,none⟩ = some (.int .u64 m):=by rw [cell_of_row w12 g9 0 _ 84 (0,0) k9.out];rfl
  have e3:w12.cell? ⟨g9,1,none⟩ = some (.int .u64 e):=by rw [cell_of_row w12 g9 1 _ 84 (0,0) k9.out];rfl
  go_still_tail 8,(by kernel_rfl)
  refine wpStill_load_row rfl 39 _ rfl w9.heap.size rfl 39 va (0,0) _ ka.out Tryz.underlying39 rfl HIa.out ?_
  refine wpStill_load_row rfl 39 _ rfl w11.heap.size rfl 39 vb (0,0) _ HG12.out Tryz.underlying39 rfl HIb.out ?_
  refine wpStill_nil ?_
  have hDr:Below w12.heap.size w12 w12.drew:=(Below.refl w12.heap.size w12).drew
  obtain ⟨wd,hwd⟩:∃ wd,w12.drew = wd:=⟨_,rfl⟩
  rw [hwd] at hDr
  have HDr:=hid hDr
  have HSd:=hid (HS12.out.new hL32 hKW hNd HDr.out)
  have kd1:=hid ((HDr.out.block _ (Array.getElem?_eq_some_iff.1 k1.out).1).trans k1.out)
  have kda:=hid ((HDr.out.block _ (Array.getElem?_eq_some_iff.1 ka.out).1).trans ka.out)
  have kdb:=hid ((HDr.out.block _ (Array.getElem?_eq_some_iff.1 HG12.out).1).trans HG12.out)
  have hN':=hN wd s11 b m e r1.1 r2.1 hb hm1 hm2 hem HS9.out.2.2 HS11.out.2.2 HSd.out.2.2.2.2.2.2.2 (by rw [HS11.out.2.1,HS9.out.2.1];exact HGG.out.1)
  rw [hvra,hvrb,HS11.out.2.1,HS9.out.2.1] at hN'
  have HZd:Hid (w12.heap.size ≤ wd.heap.size):=hid HDr.out.size
  change wpList _ _ _ _ _ w12.drew
  rw [hwd]
  clear hDr hwd f3 e0 e1 e2 e3
  go_wp2_with fail
  refine hN'.mono ?_
  rintro ev w13 ⟨rfl,s13,hab,hI13,hB13,hT13⟩
  have HX:Hid (∀ k,wc.heap.size ≤ k ∨ w.heap.size ≤ k ∧ k < wc.heap.size → k < w10.heap.size → k ≠ W → k = w9.heap.size ∨ k < wc.heap.size → ¬ T s11 k):=hid (fun k hk h1 h2 h3 q => by
   rcases HX11.out k q with q | q
   ·have h4:=HLOW.out s9 w9 _ HS9.out.1.2.2.2.2.2.2.2 q
    rcases h3 with h3 | h3
    ·omega
    ·exact HT9.out k (by have:=HZ9.out;have:=HL8.out;rcases hk with hk | hk <;> omega) h3 q
   ·omega)
  have hlow11:=fun k (q:T s11 k) => HLOW.out s11 w11 k HS11.out.1.2.2.2.2.2.2.2 q
  have k131:=hid ((hB13.same _ (Array.getElem?_eq_some_iff.1 kd1.out).1 (HX.out _ (.inr ⟨by omega,by have:=HL8.out;have:=H8.out;omega⟩) (by have:=HB10.out.size;have:=HZ9.out;have:=HL8.out;have:=H8.out;omega) (by have:=HWl.out;omega) (.inr (by have:=HL8.out;have:=H8.out;omega)))).trans kd1.out)
  have k13a:=hid ((hB13.same _ (Array.getElem?_eq_some_iff.1 kda.out).1 (HX.out _ (.inl HZ9.out) (by have:=HZ10.out;simp at this;omega) (by have:=HWl.out;have:=HZ9.out;have:=HL8.out;have:=H8.out;omega) (.inl rfl))).trans kda.out)
  have k13b:=hid ((hB13.same _ (Array.getElem?_eq_some_iff.1 kdb.out).1 (fun q => by have:=hlow11 _ q;omega)).trans kdb.out)
  have HS13:=hid (HSd.out.step hL32 hKW hB13 (fun q => (hlow11 W q).2.2 rfl) (fun k q => (hlow11 k q).1) hI13)
  have HF13:=hid ((HF11.out.trans (NFrame.new (HB12.out.trans (HDr.out.mono (by have:=kz.out;omega))))).trans ⟨hB13.mono (fun _ _ q => .inr q),hT13⟩)
  have HAB:=hid hab
  have HNT:Hid (¬ T s13 (w.heap.size+1)):=hid (fun q => by
   rcases hT13 _ q with q | q
   ·exact HX.out _ (.inr ⟨by omega,by have:=HL8.out;have:=H8.out;omega⟩) (by have:=HB10.out.size;have:=HZ9.out;have:=HL8.out;have:=H8.out;omega) (by have:=HWl.out;omega) (.inr (by have:=HL8.out;have:=H8.out;omega)) q
   ·have:=HZd.out;have:=kz.out;have:=HZ11.out;have:=HB10.out.size;have:=HZ9.out;have:=HL8.out;have:=H8.out;omega)
  have HZ13:Hid (w.heap.size+1 < w13.heap.size):=hid (Array.getElem?_eq_some_iff.1 k131.out).1
  clear hN' hab hI13 hB13 hT13 hlow11
  obtain ⟨rv,hrv⟩:∃ rv,(bytesV (nodeH r1.1 r2.1)).toArray = rv:=⟨_,rfl⟩
  have HS9r:Hid (rv.size = 32):=hid (by rw [← hrv];simp [bytesV_length,nodeH_length])
  have HI9r:Hid ((Tryz.prog.info? 39).map (·.size) = some rv.size):=hid (by rw [HS9r.out];kernel_rfl)
  have HO9r:Hid (rv.all (·.oneCell') = true):=hid (by rw [← hrv];exact bytesV_all _)
  have hnd:=hnode_any r1.1 r2.1 w13 HS9.out.2.2 HS11.out.2.2 HS13.out.2.2.2.2.2.2.1
  rw [hvra,hvrb,show hv (nodeH r1.1 r2.1) = .agg rv by rw [hv,hrv]] at hnd
  have HRV:=hid hrv
  clear hrv
  go_wp2_with (first
   | (refine wpList_load_row rfl 39 _ rfl w9.heap.size rfl 39 va (0,0) _ k13a.out Tryz.underlying39 rfl HIa.out ?_)
   | (refine wpList_load_row rfl 39 _ rfl w11.heap.size rfl 39 vb (0,0) _ k13b.out Tryz.underlying39 rfl HIb.out ?_))
  refine hnd.mono ?_
  rintro ev w14 ⟨rfl,hb14⟩
  have HB14:=hid hb14
  have k141:=hid ((hb14.block _ HZ13.out).trans k131.out)
  clear hnd hb14
  go_wp2_with (first
   | (refine wpList_store_row rfl 39 _ _ rfl (w.heap.size+1) rv rfl rfl 39 _ k141.out HI9r.out (by rw [HS9r.out];simp) HO9r.out ?_))
  refine bodyPost_ret (v:=.agg rv) (results_cell_row rfl _ _ (w.heap.size+1) 39 rv (0,0) _ rfl (setRow_heap _ _ _ _ _ _ k141.out) Tryz.underlying39 rfl HI9r.out) rfl ⟨by rw [hv,HRV.out],nodeH_length _ _,A11,c11,s13,?_,HAB.out,?_⟩
  ·refine (HS13.out.new hL32 hKW hNd HB14.out).step (S:=(· = w.heap.size+1)) hL32 hKW ((But.refl _ _).setRow _ _ (fun _ => rfl)) (fun q => by have:=HWl.out;omega) (fun k q => by have:=hbW;have:=HWl.out;omega) ?_
   refine hNd.keep _ w13 _ HS13.out.2.2.2.2.2.2.2 (by simp;exact HB14.out.size) (fun k q => ?_)
   rw [setRow_other _ _ _ _ (fun e => HNT.out (by rw [← e];exact q))]
   exact HB14.out.block k (HLOW.out _ _ _ HS13.out.2.2.2.2.2.2.2 q).2.1
  ·exact ⟨(HF13.out.1.below HB14.out).setRow _ _ (fun h => by omega),HF13.out.2⟩
theorem bsaysNote {σ β:Type} (base W:Nat) (x:Int) (lA:Option Addr) (L:List (List UInt8)) (lcap:Nat) (Inv:σ → World → Prop) (T:σ → Nat → Prop) (ab:σ → β) (step:β → Int → Int → Int → List UInt8 → List UInt8 → β) (G:β → Prop) (hGd:∀ o b m e p q,G (step o b m e p q) → G o)
 (hL32:H32 L) (hx0:0 ≤ x) (hlc:L.length ≤ lcap) (hlcm:lcap ≤ 9223372036854775807) (hKW:16 < base) (hbW:base ≤ W) (hNd:Noted base W Inv T ab) (hN:NoteOKNote Inv T ab step G):∀ f,SaysOKNote base W x lA L lcap Inv T ab step G f:=by
 intro f
 induction f
 all_goals
  intro b e A c ps w s hS hb he hem hp hbl hGf
  have hW:=hS.1
  have hWl:W < w.heap.size:=(Array.getElem?_eq_some_iff.1 hW).1
  by_cases ho:e ≤ x ∨ x+L.length ≤ b
  ·rw [batchL_out ho] at hbl
   match ps,hS,hW,hbl with
   | p :: r,hS,hW,hbl =>
    obtain ⟨g,o,rfl,hr,hgb⟩:=hS.2.2.1.resolve_left (by simp)
    have hgW:g ≠ W:=by omega
    rw [sayF_out nodeH ho,noteF_end nodeH step (.inl ho)]
    have h32:=hS.2.2.2.1
    have hcm:=hS.2.2.2.2.2.1
    have hc9:r.length+1 ≤ c:=by simpa using hS.2.2.2.2.1
    have h1:WalkAt w W x (.slice lA L.length lcap) (.slice (some ⟨g,o,none⟩) (r.length+1) c) (.func (.func 118) #[] #[]):=by simpa using hW
    have fin:∀ ev w',(ev = .returned (hv p) ∧ (∃ A c,WalkAt w' W x (.slice lA L.length lcap) (.slice A r.length c) (.func (.func 118) #[] #[]) ∧ r.length ≤ c ∧ c ≤ 9223372036854775807 ∧ (r = [] ∨ ∃ o2,A = some ⟨g,o2,none⟩ ∧ w'.rangeAt g o2 (hashCells r))) ∧ But (· = W) w w') → SaysPost base W x lA L lcap (.func (.func 118) #[] #[]) Inv T ab w s (p,r) (ab s) ev w':=by
     rintro ev w' ⟨h2,⟨A2,c2,h3,h4,h5,h6⟩,h7⟩
     have hs:∀ g,g < base → g < w.heap.size → w'.heap[g]? = w.heap[g]?:=fun g hg hl => h7.same g hl (by omega)
     refine ⟨h2,h32 p (by simp),A2,c2,s,⟨h3,hS.2.1.same hs hL32,h6.imp id (fun ⟨o2,q1,q2⟩ => ⟨g,o2,q1,q2,hgb⟩),fun y hy => h32 y (by simp [hy]),h4,h5,hS.2.2.2.2.2.2.1.but h7 (by omega),?_⟩,rfl,NFrame.but h7⟩
     refine hNd.keep s w w' hS.2.2.2.2.2.2.2 h7.size (fun k q => ?_)
     have:=hNd.low s w k hS.2.2.2.2.2.2.2 q
     exact h7.same k this.2.1 this.2.2
    by_cases hex:e ≤ x
    ·exact (bsays_out W g o c r.length x b e _ (.func (.func 118) #[] #[]) p r w h1 hx0 hb he hem hex rfl hc9 hcm (h32 p (by simp)) hr hgW).mono fin
    ·exact (bsays_past W g o c r.length x b e lA L.length lcap (.func (.func 118) #[] #[]) p r w h1 hx0 hb he hem (by omega) (by omega) rfl hc9 hcm (h32 p (by simp)) hr hgW).mono fin
  ·by_cases hs:e - b < 2
   ·have hbx:x ≤ b:=by omega
    obtain ⟨t,ht⟩:∃ t:Nat,b = x+t:=⟨(b - x).toNat,by omega⟩
    have htm:t < L.length:=by omega
    obtain ⟨p,hp2⟩:∃ p,L[t]? = some p:=⟨_,List.getElem?_eq_getElem htm⟩
    have hne:L ≠ []:=by intro q;rw [q] at htm;simp at htm
    obtain ⟨g,o,rfl,hr,hgb⟩:=hS.2.1.resolve_left hne
    have hgW:g ≠ W:=by omega
    have hpr:w.rangeAt g (o+t * 32) (bytesV p):=fun j v hj => by
     rw [Nat.add_assoc];exact hr _ v (hashCells_at hL32 hp2 hj)
    have hla:leafAt x L b = p:=by unfold leafAt;rw [show (b - x).toNat = t by omega,List.getD_eq_getElem?_getD,hp2];rfl
    rw [sayF_leaf nodeH ho hs,hla,noteF_end nodeH step (.inr hs)]
    refine (bsays_leaf W g o L.length lcap t x b e _ (.func (.func 118) #[] #[]) p w hW hx0 ht he hem hs htm hlc hlcm (hL32.at hp2) hpr hgW).mono ?_
    rintro ev w' ⟨h2,h3⟩
    exact ⟨h2,hL32.at hp2,A,c,s,hS.new hL32 hKW hNd h3,rfl,NFrame.new h3⟩
   ·first
     | (exfalso;rw [pow2_zero] at hp;omega)
     | exact bsays_nodeNote base W x lA L lcap Inv T ab step G hGd hL32 hx0 hlc hlcm hKW hbW hNd hN _ (by assumption) b e A c ps w s hS hb he hem hp hbl ho hs hGf
end Go.Proofs.YtpdkpdpkggepcaaGreatDoor
