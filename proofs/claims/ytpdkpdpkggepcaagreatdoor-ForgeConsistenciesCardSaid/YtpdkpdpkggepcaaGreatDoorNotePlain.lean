import Derived.Test.YtpdkpdpkggepcaaGreatDoorBatchPlain
import Derived.Test.YtpdkpdpkggepcaaGreatDoorLogPlain
/- Plain facts on trees of hashes: what a proof of a stretch says. No program in sight. -/
namespace Go.Proofs.YtpdkpdpkggepcaaGreatDoor
open Go.ChangeShapes Go.WideShapes Go.ChangeAt Go.RowKit
set_option linter.unusedVariables false
section
variable {α:Type} (node:α → α → α)
def treeF:Nat → (Int → α) → Int → Int → α
 | 0,g,b,_ => g b
 | f+1,g,b,e => if e - b < 2 then g b else node (treeF f g b (b+blwI (e - b))) (treeF f g (b+blwI (e - b)) e)
theorem treeF_fuel:∀ (f k:Nat) (g:Int → α) (b e:Int),e - b ≤ pow2 f → e - b ≤ pow2 k → treeF node f g b e = treeF node k g b e
 | 0,0,_,_,_,_,_ => rfl
 | 0,k+1,g,b,e,h,_ => by rw [pow2_zero] at h;rw [treeF,treeF,if_pos (by omega)]
 | f+1,0,g,b,e,_,h => by rw [pow2_zero] at h;simp only [treeF];rw [if_pos (by omega)]
 | f+1,k+1,g,b,e,hf,hk => by
  rw [treeF,treeF]
  by_cases h2:e - b < 2
  ·rw [if_pos h2,if_pos h2]
  ·have hb:=blwI_bd (n:=e - b) (by omega)
   have h1:=blwI_le_pow (n:=e - b) (f:=f) (by omega) hf
   have h3:=blwI_le_pow (n:=e - b) (f:=k) (by omega) hk
   rw [if_neg h2,if_neg h2,treeF_fuel f k g b _ (by omega) (by omega),treeF_fuel f k g _ e (by omega) (by omega)]
def treeT (g:Int → α) (b e:Int):α:=treeF node 64 g b e
theorem treeT_leaf (g:Int → α) (b e:Int) (h:e - b < 2):treeT node g b e = g b:=by unfold treeT;rw [treeF,if_pos h]
theorem treeT_node (g:Int → α) (b e:Int) (h:2 ≤ e - b) (hm:e - b ≤ pow2 64):treeT node g b e = node (treeT node g b (b+blwI (e - b))) (treeT node g (b+blwI (e - b)) e):=by
 have hb:=blwI_bd (n:=e - b) (by omega)
 have h1:=blwI_le_pow (n:=e - b) (f:=63) (by omega) hm
 have h2:=pow2_succ 63
 unfold treeT
 rw [treeF,if_neg (by omega),treeF_fuel node 63 64 g b _ (by omega) (by omega),treeF_fuel node 63 64 g _ e (by omega) (by omega)]
def headF (d:α):List α → α × List α
 | [] => (d,[])
 | p :: r => (p,r)
def sayF:Nat → Int → Int → (Int → α) → Int → Int → List α → α × List α
 | 0,x,y,g,b,e,ps => if e ≤ x ∨ y ≤ b then headF (g b) ps else (g b,ps)
 | f+1,x,y,g,b,e,ps => if e ≤ x ∨ y ≤ b then headF (g b) ps else if e - b < 2 then (g b,ps)
  else (node (sayF f x y g b (b+blwI (e - b)) ps).1 (sayF f x y g (b+blwI (e - b)) e (sayF f x y g b (b+blwI (e - b)) ps).2).1,(sayF f x y g (b+blwI (e - b)) e (sayF f x y g b (b+blwI (e - b)) ps).2).2)
theorem sayF_out {f:Nat} {x y:Int} {g:Int → α} {b e:Int} {p:α} {r:List α} (h:e ≤ x ∨ y ≤ b):sayF node f x y g b e (p :: r) = (p,r):=by
 cases f <;> (rw [sayF,if_pos h];rfl)
theorem sayF_leaf {f:Nat} {x y:Int} {g:Int → α} {b e:Int} {ps:List α} (h:¬ (e ≤ x ∨ y ≤ b)) (h2:e - b < 2):sayF node f x y g b e ps = (g b,ps):=by
 cases f
 ·rw [sayF,if_neg h]
 ·rw [sayF,if_neg h,if_pos h2]
theorem sayF_node {f:Nat} {x y:Int} {g:Int → α} {b e:Int} {ps:List α} (h:¬ (e ≤ x ∨ y ≤ b)) (h2:¬ e - b < 2):sayF node (f+1) x y g b e ps =
 (node (sayF node f x y g b (b+blwI (e - b)) ps).1 (sayF node f x y g (b+blwI (e - b)) e (sayF node f x y g b (b+blwI (e - b)) ps).2).1,(sayF node f x y g (b+blwI (e - b)) e (sayF node f x y g b (b+blwI (e - b)) ps).2).2):=by
 rw [sayF,if_neg h,if_neg h2]
theorem sayF_in:∀ (f:Nat) (x y:Int) (g:Int → α) (b e:Int) (ps:List α),x ≤ b → e ≤ y → b < e → (sayF node f x y g b e ps).2 = ps
 | 0,x,y,g,b,e,ps,h1,h2,h3 => by rw [sayF,if_neg (by omega)]
 | f+1,x,y,g,b,e,ps,h1,h2,h3 => by
  by_cases hs:e - b < 2
  ·rw [sayF_leaf node (by omega) hs]
  ·have hb:=blwI_bd (n:=e - b) (by omega)
   rw [sayF_node node (by omega) hs,sayF_in f x y g b _ ps h1 (by omega) (by omega),sayF_in f x y g _ e ps (by omega) h2 (by omega)]
theorem sayF_rest:∀ (f:Nat) (x y:Int) (g:Int → α) (b e:Int) (ps:List α),b < e → e - b ≤ pow2 f → (batchL f x y b e).length ≤ ps.length →
 (sayF node f x y g b e ps).2 = ps.drop (batchL f x y b e).length
 | f,x,y,g,b,e,ps,hbe,hp,hl => by
  by_cases ho:e ≤ x ∨ y ≤ b
  ·rw [batchL_out ho] at hl ⊢
   cases ps with
   | nil => simp at hl
   | cons p r => rw [sayF_out node ho];rfl
  ·by_cases hi:x ≤ b ∧ e ≤ y
   ·rw [batchL_in ho hi,sayF_in node f x y g b e ps hi.1 hi.2 hbe];rfl
   ·by_cases hs:e - b < 2
    ·exfalso;omega
    ·cases f with
     | zero => rw [pow2_zero] at hp;omega
     | succ f =>
      have hb:=blwI_bd (n:=e - b) (by omega)
      have hk:=blwI_le_pow (n:=e - b) (f:=f) (by omega) hp
      rw [batchL_half ho hi,List.length_append] at hl ⊢
      have h1:=sayF_rest f x y g b (b+blwI (e - b)) ps (by omega) (by omega) (by omega)
      have h2:=sayF_rest f x y g (b+blwI (e - b)) e (ps.drop (batchL f x y b (b+blwI (e - b))).length) (by omega) (by omega) (by rw [List.length_drop];omega)
      rw [sayF_node node ho hs,h1,h2,List.drop_drop]
end
/- Plain facts: a path of a log proves its leaf; what a batch proof of a log says. No program in sight. -/
section
variable {α:Type} (node:α → α → α)
theorem pow2_nat {n:Int} {f:Nat} (h:n ≤ pow2 f) (h0:0 ≤ n):n.toNat ≤ 2 ^ f:=by unfold pow2 at h;omega
theorem blwI_toNat {n:Int} (h:0 ≤ n):(blwI n).toNat = blw n.toNat:=by unfold blwI;exact Int.toNat_natCast _
theorem bot_path:∀ (f:Nat) (g:Int → α) (ix b e:Int),b ≤ ix → ix < e → e - b ≤ pow2 f → f ≤ 64 →
 bot node (f+1) (ix - b).toNat (e - b).toNat (g ix) ((pathL f ix b e).map fun s => treeT node g s.1 s.2) = some (treeT node g b e)
 | 0,g,ix,b,e,h1,h2,hp,_ => by
  rw [pow2_zero] at hp
  obtain rfl:ix = b:=by omega
  rw [bot_one node (by omega),treeT_leaf node g _ _ (by omega)];rfl
 | f+1,g,ix,b,e,h1,h2,hp,hf => by
  by_cases hs:e - b < 2
  ·obtain rfl:ix = b:=by omega
   rw [bot_one node (by omega),treeT_leaf node g _ _ (by omega),pathL,if_pos hs];rfl
  ·have hb:=blwI_bd (n:=e - b) (by omega)
   have hk:=blwI_le_pow (n:=e - b) (f:=f) (by omega) hp
   have hps:=pow2_succ f
   have hp64:=pow2_le (show f+1 ≤ 64 by omega)
   have hn:=pow2_nat hp (by omega)
   have e1:blw (e - b).toNat = (blwI (e - b)).toNat:=(blwI_toNat (by omega)).symm
   obtain ⟨k,hk'⟩:∃ k,blwI (e - b) = k:=⟨_,rfl⟩
   rw [treeT_node node g b e (by omega) (by omega),pathL,if_neg hs]
   rw [hk'] at hb hk e1 ⊢
   have hnk:k.toNat ≤ 2 ^ f:=pow2_nat (by omega) (by omega)
   by_cases hx:ix < b+k
   ·rw [if_pos hx,List.map_append,List.map_cons,List.map_nil]
    have ih:=bot_path f g ix b (b+k) h1 hx (by omega) (by omega)
    rw [show b+k - b = k by omega] at ih
    refine bot_left node (f+1) (ix - b).toNat (e - b).toNat (g ix) _ _ _ (by omega) hn (by rw [e1];omega) ?_
    rw [e1,← bot_fuel node f (f+1) _ _ _ _ (by omega) (by have:=Nat.pow_succ 2 f;omega)];exact ih
   ·rw [if_neg hx,List.map_append,List.map_cons,List.map_nil]
    have ih:=bot_path f g ix (b+k) e (by omega) h2 (by omega) (by omega)
    rw [show e - (b+k) = e - b - k by omega,show ix - (b+k) = ix - b - k by omega] at ih
    refine bot_right node (f+1) (ix - b).toNat (e - b).toNat (g ix) _ _ _ (by omega) hn (by rw [e1];omega) (by omega) ?_
    have hnk2:(e - b - k).toNat ≤ 2 ^ f:=pow2_nat (by omega) (by omega)
    rw [e1,show (e - b).toNat - k.toNat = (e - b - k).toNat by omega,show (ix - b).toNat - k.toNat = (ix - b - k).toNat by omega,← bot_fuel node f (f+1) _ _ _ _ hnk2 (by have:=Nat.pow_succ 2 f;omega)];exact ih
theorem sayF_tree:∀ (f:Nat) (x y:Int) (g q:Int → α) (b e:Int) (r:List α),b < e → e - b ≤ pow2 f → f ≤ 64 → (∀ i,x ≤ i → i < y → q i = g i) →
 sayF node f x y q b e ((batchL f x y b e).map (fun s => treeT node g s.1 s.2) ++ r) = (treeT node g b e,r)
 | f,x,y,g,q,b,e,r,hbe,hp,hf,hq => by
  by_cases ho:e ≤ x ∨ y ≤ b
  ·rw [batchL_out ho,List.map_cons,List.map_nil,List.cons_append,sayF_out node ho];rfl
  ·by_cases hs:e - b < 2
   ·have hi:x ≤ b ∧ e ≤ y:=by omega
    rw [batchL_in ho hi,sayF_leaf node ho hs,treeT_leaf node g b e hs,hq b (by omega) (by omega)];rfl
   ·cases f with
    | zero => rw [pow2_zero] at hp;omega
    | succ f =>
     have hb:=blwI_bd (n:=e - b) (by omega)
     have hk:=blwI_le_pow (n:=e - b) (f:=f) (by omega) hp
     have hp64:=pow2_le (show f+1 ≤ 64 by omega)
     have h1:=fun r => sayF_tree f x y g q b (b+blwI (e - b)) r (by omega) (by omega) (by omega) hq
     have h2:=fun r => sayF_tree f x y g q (b+blwI (e - b)) e r (by omega) (by omega) (by omega) hq
     rw [treeT_node node g b e (by omega) (by omega),sayF_node node ho hs]
     by_cases hi:x ≤ b ∧ e ≤ y
     ·rw [batchL_in ho hi]
      have h1:=h1 r
      have h2:=h2 r
      rw [batchL_in (by omega) (by omega)] at h1 h2
      rw [List.map_nil,List.nil_append] at h1 h2 ⊢
      rw [h1];simp only;rw [h2]
     ·rw [batchL_half ho hi,List.map_append,List.append_assoc,h1];simp only;rw [h2]
end
/- Plain facts on what a proof of a stretch says of a path: the siblings of the way to a leaf. No program in sight. -/
theorem pathL_in:∀ (f:Nat) (ix b e:Int) (s:Int × Int),b ≤ ix → ix < e → e - b ≤ pow2 f → s ∈ pathL f ix b e → b ≤ s.1 ∧ s.1 < s.2 ∧ s.2 ≤ e ∧ (s.2 ≤ ix ∨ ix < s.1)
 | 0,ix,b,e,s,h1,h2,hp,h => by simp [pathL] at h
 | f+1,ix,b,e,s,h1,h2,hp,h => by
  by_cases hs:e - b < 2
  ·rw [pathL,if_pos hs] at h;simp at h
  ·have hb:=blwI_bd (n:=e - b) (by omega)
   have hk:=blwI_le_pow (n:=e - b) (f:=f) (by omega) hp
   rw [pathL,if_neg hs] at h
   by_cases hx:ix < b+blwI (e - b)
   ·rw [if_pos hx,List.mem_append] at h
    rcases h with h | h
    ·have:=pathL_in f ix b _ s h1 hx (by omega) h;omega
    ·simp at h;subst h;simp only;omega
   ·rw [if_neg hx,List.mem_append] at h
    rcases h with h | h
    ·have:=pathL_in f ix _ e s (by omega) h2 (by omega) h;omega
    ·simp at h;subst h;simp only;omega
section
variable {α:Type} (node:α → α → α)
def pathF:Nat → Int → Int → (Int → α) → Int → Int → Int → List α → List α
 | 0,_,_,_,_,_,_,_ => []
 | f+1,x,y,g,ix,b,e,ps => if e - b < 2 then [] else
  if ix < b+blwI (e - b) then pathF f x y g ix b (b+blwI (e - b)) ps ++ [(sayF node f x y g (b+blwI (e - b)) e (sayF node f x y g b (b+blwI (e - b)) ps).2).1]
  else pathF f x y g ix (b+blwI (e - b)) e (sayF node f x y g b (b+blwI (e - b)) ps).2 ++ [(sayF node f x y g b (b+blwI (e - b)) ps).1]
theorem pathF_tree:∀ (f:Nat) (x y:Int) (g q:Int → α) (ix b e:Int) (r:List α),b ≤ ix → ix < e → x ≤ ix → ix < y → e - b ≤ pow2 f → f ≤ 64 → (∀ i,x ≤ i → i < y → q i = g i) →
 pathF node f x y q ix b e ((batchL f x y b e).map (fun s => treeT node g s.1 s.2) ++ r) = (pathL f ix b e).map (fun s => treeT node g s.1 s.2)
 | 0,x,y,g,q,ix,b,e,r,_,_,_,_,_,_,_ => rfl
 | f+1,x,y,g,q,ix,b,e,r,h1,h2,h3,h4,hp,hf,hq => by
  by_cases hs:e - b < 2
  ·rw [pathL,if_pos hs,pathF,if_pos hs];rfl
  ·have hb:=blwI_bd (n:=e - b) (by omega)
   have hk:=blwI_le_pow (n:=e - b) (f:=f) (by omega) hp
   have s1:=fun r => sayF_tree node f x y g q b (b+blwI (e - b)) r (by omega) (by omega) (by omega) hq
   have s2:=fun r => sayF_tree node f x y g q (b+blwI (e - b)) e r (by omega) (by omega) (by omega) hq
   have key:∃ r1 r2:List α,(batchL (f+1) x y b e).map (fun s => treeT node g s.1 s.2) ++ r = (batchL f x y b (b+blwI (e - b))).map (fun s => treeT node g s.1 s.2) ++ ((batchL f x y (b+blwI (e - b)) e).map (fun s => treeT node g s.1 s.2) ++ r):=by
    by_cases hi:x ≤ b ∧ e ≤ y
    ·rw [batchL_in (by omega) hi,batchL_in (by omega) (by omega),batchL_in (by omega) (by omega)];exact ⟨[],[],rfl⟩
    ·rw [batchL_half (by omega) hi,List.map_append,List.append_assoc];exact ⟨[],[],rfl⟩
   obtain ⟨_,_,key⟩:=key
   rw [key,pathL,if_neg hs,pathF,if_neg hs,s1]
   by_cases hx:ix < b+blwI (e - b)
   ·rw [if_pos hx,if_pos hx,List.map_append,pathF_tree f x y g q ix b _ _ h1 hx h3 h4 (by omega) (by omega) hq]
    simp only;rw [s2];rfl
   ·rw [if_neg hx,if_neg hx,List.map_append]
    simp only
    rw [pathF_tree f x y g q ix _ e _ (by omega) h2 h3 h4 (by omega) (by omega) hq];rfl
end
/- Plain facts: what is noted while a proof says a tree: each node once, its halves first. No program in sight. -/
section
variable {α β:Type} (node:α → α → α) (step:β → Int → Int → Int → α → α → β)
def noteF:Nat → Int → Int → (Int → α) → Int → Int → List α → β → β
 | 0,_,_,_,_,_,_,o => o
 | f+1,x,y,g,b,e,ps,o => if e ≤ x ∨ y ≤ b then o else if e - b < 2 then o else
  step (noteF f x y g (b+blwI (e - b)) e (sayF node f x y g b (b+blwI (e - b)) ps).2 (noteF f x y g b (b+blwI (e - b)) ps o)) b (b+blwI (e - b)) e
   (sayF node f x y g b (b+blwI (e - b)) ps).1 (sayF node f x y g (b+blwI (e - b)) e (sayF node f x y g b (b+blwI (e - b)) ps).2).1
theorem noteF_end {f:Nat} {x y:Int} {g:Int → α} {b e:Int} {ps:List α} {o:β} (h:(e ≤ x ∨ y ≤ b) ∨ e - b < 2):noteF node step f x y g b e ps o = o:=by
 cases f
 ·rfl
 ·rw [noteF]
  by_cases h1:e ≤ x ∨ y ≤ b
  ·rw [if_pos h1]
  ·rw [if_neg h1,if_pos (by omega)]
theorem noteF_node {f:Nat} {x y:Int} {g:Int → α} {b e:Int} {ps:List α} {o:β} (h:¬ (e ≤ x ∨ y ≤ b)) (h2:¬ e - b < 2):noteF node step (f+1) x y g b e ps o =
 step (noteF node step f x y g (b+blwI (e - b)) e (sayF node f x y g b (b+blwI (e - b)) ps).2 (noteF node step f x y g b (b+blwI (e - b)) ps o)) b (b+blwI (e - b)) e
  (sayF node f x y g b (b+blwI (e - b)) ps).1 (sayF node f x y g (b+blwI (e - b)) e (sayF node f x y g b (b+blwI (e - b)) ps).2).1:=by
 rw [noteF,if_neg h,if_neg h2]
theorem noteF_down {G:β → Prop} (hG:∀ o b m e p q,G (step o b m e p q) → G o):∀ (f:Nat) (x y:Int) (g:Int → α) (b e:Int) (ps:List α) (o:β),G (noteF node step f x y g b e ps o) → G o
 | 0,_,_,_,_,_,_,_,h => h
 | f+1,x,y,g,b,e,ps,o,h => by
  by_cases h2:(e ≤ x ∨ y ≤ b) ∨ e - b < 2
  ·rwa [noteF_end node step h2] at h
  ·rw [noteF_node node step (by omega) (by omega)] at h
   exact noteF_down hG f x y g b _ ps o (noteF_down hG f x y g _ e _ _ (hG _ _ _ _ _ _ h))
end
section
variable {α:Type} (node:α → α → α)
end
end Go.Proofs.YtpdkpdpkggepcaaGreatDoor
