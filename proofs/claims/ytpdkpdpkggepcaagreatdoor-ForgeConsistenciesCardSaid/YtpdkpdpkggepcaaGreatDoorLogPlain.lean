import Derived.Test.YtpdkpdpkggepcaaGreatDoorAid
import Derived.Laws.Bits64b
/- Plain facts behind package bits: ones at the end, ones in all, shifts. No program in sight. -/
namespace Go.Proofs.YtpdkpdpkggepcaaGreatDoor
open Go.ChangeShapes Go.WideShapes Go.ChangeAt Go.RowKit
set_option linter.unusedVariables false
def onesF:Nat → Nat → Nat
 | 0,_ => 0
 | f+1,x => if x % 2 = 1 then onesF f (x / 2)+1 else 0
def cntF:Nat → Nat → Nat
 | 0,_ => 0
 | f+1,x => x % 2+cntF f (x / 2)
def ones (x:Nat):Nat:=onesF 64 x
def cnt (x:Nat):Nat:=cntF 64 x
theorem and_u64 (a b:Nat) (ha:a < 18446744073709551616) (hb:b < 18446744073709551616):bits .and .u64 (a:Int) (b:Int) = ((a &&& b:Nat):Int) :=
 bits_and_u64_nat a b ha hb
/-! shifts up, and down again -/
/- Plain facts on lengths in bits, logarithms, powers of two below a number. No program in sight. -/
def blen (y:Nat):Nat:=if y = 0 then 0 else Nat.log2 y+1
theorem blen_zero:blen 0 = 0:=rfl
theorem blen_pos {y:Nat} (h:0 < y):blen y = Nat.log2 y+1:=if_neg (by omega)
theorem blen_eq {y k:Nat} (h1:2 ^ k ≤ y) (h2:y < 2 ^ (k+1)):blen y = k+1:=by
 have hp:0 < y:=Nat.lt_of_lt_of_le (Nat.two_pow_pos k) h1
 rw [blen_pos hp,(Nat.log2_eq_iff (by omega)).2 ⟨h1,h2⟩]
theorem blen_lo {y:Nat} (h:0 < y):2 ^ (blen y - 1) ≤ y:=by
 rw [blen_pos h,Nat.add_sub_cancel];exact Nat.log2_self_le (by omega)
theorem blen_hi (y:Nat):y < 2 ^ blen y:=by
 by_cases h:y = 0
 ·subst h;decide
 ·rw [blen_pos (by omega)];exact Nat.lt_log2_self
theorem blen_half {y:Nat} (h:0 < y):blen y = blen (y / 2)+1:=by
 by_cases h1:y = 1
 ·subst h1;decide
 ·have a:=blen_lo (y:=y / 2) (by omega)
  have b:=blen_hi (y / 2)
  have c:blen (y / 2) = (blen (y / 2) - 1)+1:=by rw [blen_pos (by omega)];omega
  rw [c] at b
  have hb:2 ^ ((blen (y / 2) - 1)+1) ≤ y:=by rw [Nat.pow_succ];omega
  have hc:y < 2 ^ ((blen (y / 2) - 1)+1+1):=by rw [Nat.pow_succ];omega
  have:=blen_eq hb hc
  omega
theorem blen_le {y k:Nat} (h:y < 2 ^ k):blen y ≤ k:=by
 by_cases h0:y = 0
 ·subst h0;rw [blen_zero];omega
 ·have a:=blen_lo (y:=y) (by omega)
  have:2 ^ (blen y - 1) < 2 ^ k:=by omega
  have:=(Nat.pow_lt_pow_iff_right (a:=2) (by decide)).1 this
  omega
theorem blen_le64 {y:Nat} (h:y < 18446744073709551616):blen y ≤ 64:=blen_le (k:=64) h
def lg (n:Nat):Nat:=blen (n - 1)
def blw (n:Nat):Nat:=2 ^ (blen (n - 1) - 1)
theorem lg_le {n:Nat} (h:n < 18446744073709551616):lg n ≤ 64:=blen_le64 (by omega)
theorem blw_lt {n:Nat} (h:2 ≤ n):blw n < n:=by have:=blen_lo (y:=n - 1) (by omega);unfold blw;omega
theorem blw_dbl {n:Nat} (h:2 ≤ n):n ≤ 2 * blw n:=by
 have:=blen_hi (n - 1);have c:blen (n - 1) = (blen (n - 1) - 1)+1:=by rw [blen_pos (by omega)];omega
 rw [c,Nat.pow_succ] at this;unfold blw;omega
theorem blw_pos (n:Nat):0 < blw n:=Nat.two_pow_pos _
theorem blw_eq {n e:Nat} (h1:2 ^ e < n) (h2:n ≤ 2 ^ (e+1)):blw n = 2 ^ e:=by
 have:=blen_eq (y:=n - 1) (k:=e) (by omega) (by omega)
 unfold blw;rw [this];rfl
theorem lg_eq {n e:Nat} (h1:2 ^ e < n) (h2:n ≤ 2 ^ (e+1)):lg n = e+1:=blen_eq (by omega) (by omega)
theorem lg_one:lg 1 = 0:=rfl
theorem lg_blw {n:Nat} (h:2 ≤ n):lg (blw n)+1 = lg n:=by
 have hp:0 < blen (n - 1):=by rw [blen_pos (by omega)];omega
 by_cases e:blen (n - 1) - 1 = 0
 ·have:blw n = 1:=by unfold blw;rw [e]
  rw [this,lg_one];unfold lg;omega
 ·obtain ⟨k,hk⟩:∃ k,blen (n - 1) - 1 = k+1:=⟨blen (n - 1) - 2,by omega⟩
  have hb:blw n = 2 ^ (k+1):=by unfold blw;rw [hk]
  have:=lg_eq (n:=blw n) (e:=k) (by rw [hb,Nat.pow_succ];have:=Nat.two_pow_pos k;omega) (by rw [hb];exact Nat.le_refl _)
  rw [this];unfold lg;omega
theorem blw_lg {n:Nat} (h:2 ≤ n):blw n = 2 ^ (lg n - 1):=rfl
theorem lg_pos {n:Nat} (h:2 ≤ n):1 ≤ lg n:=by unfold lg;rw [blen_pos (by omega)];omega
def blwI (n:Int):Int:=((blw n.toNat:Nat):Int)
def lgI (n:Int):Int:=((lg n.toNat:Nat):Int)
def cntI (n:Int):Int:=((cnt n.toNat:Nat):Int)
def onesI (n:Int):Int:=((ones n.toNat:Nat):Int)
theorem blwI_bd {n:Int} (h2:2 ≤ n):1 ≤ blwI n ∧ blwI n < n ∧ n ≤ 2 * blwI n:=by
 have h1:=blw_lt (n:=n.toNat) (by omega);have h3:=blw_dbl (n:=n.toNat) (by omega);have h4:=blw_pos n.toNat
 unfold blwI;omega
theorem lgI_bd {n:Int} (h:n < 18446744073709551616):0 ≤ lgI n ∧ lgI n ≤ 64:=by
 have:=lg_le (n:=n.toNat) (by omega);unfold lgI;omega
theorem pw_lt {a b:Nat} (h:((2 ^ a:Nat):Int) < ((2 ^ b:Nat):Int)):a < b:=(Nat.pow_lt_pow_iff_right (a:=2) (by decide)).1 (by omega)
theorem pw_succ (e:Nat):((2 ^ (e+1):Nat):Int) = 2 * ((2 ^ e:Nat):Int):=by rw [Nat.pow_succ];omega
theorem pw_pos (e:Nat):1 ≤ ((2 ^ e:Nat):Int):=by have:=Nat.two_pow_pos e;omega
theorem pw_63:((2 ^ 63:Nat):Int) = 9223372036854775808:=rfl
theorem pw_le {a b:Nat} (h:a ≤ b):((2 ^ a:Nat):Int) ≤ ((2 ^ b:Nat):Int):=by have:=Nat.pow_le_pow_right (n:=2) (by omega) h;omega
theorem blwI_eq {n p:Int} {e:Nat} (hp:p = ((2 ^ e:Nat):Int)) (h1:p < n) (h2:n ≤ 2 * p):p = blwI n:=by
 have:=pw_pos e
 have h3:=blw_eq (n:=n.toNat) (e:=e) (by omega) (by rw [Nat.pow_succ];omega)
 unfold blwI;rw [h3];exact hp
theorem pw_lt63 {p:Int} {e:Nat} (hp:p = ((2 ^ e:Nat):Int)) (h:p < 9223372036854775808):e+1 ≤ 63 ∧ 2 * p ≤ 9223372036854775808:=by
 have h1:e < 63:=pw_lt (by rw [pw_63];omega)
 have h2:=pw_le (show e+1 ≤ 63 by omega)
 rw [pw_succ,pw_63] at h2;omega
def blenI (y:Int):Int:=((blen y.toNat:Nat):Int)
theorem blenI_lg {n:Int} (h:1 ≤ n):blenI (n - 1) = lgI n:=by
 have e:(n - 1).toNat = n.toNat - 1:=by omega
 unfold blenI lgI lg;rw [e]
theorem blenI_bd {y:Int} (h:y < 18446744073709551616):0 ≤ blenI y ∧ blenI y ≤ 64:=by
 have:=blen_le64 (y:=y.toNat) (by omega);unfold blenI;omega
theorem lgI_blwI {n:Int} (h:2 ≤ n):lgI (blwI n)+1 = lgI n:=by
 have:=lg_blw (n:=n.toNat) (by omega)
 unfold lgI blwI;rw [Int.toNat_natCast];omega
theorem lgI_pos {n:Int} (h:2 ≤ n):1 ≤ lgI n:=by
 have:=lg_pos (n:=n.toNat) (by omega);unfold lgI;omega
theorem blwI_pow {n:Int} (h:2 ≤ n):blwI n = 2 ^ (lgI n - 1).toNat:=by
 have h1:=lg_pos (n:=n.toNat) (by omega)
 have e:(lgI n - 1).toNat = lg n.toNat - 1:=by unfold lgI;omega
 rw [e];unfold blwI;rw [blw_lg (by omega)];simp
attribute [irreducible] blwI lgI cntI onesI blenI
/- Plain facts behind package verify: a path folded from below is the path folded from above. No program in sight. -/
theorem blw_two:blw 2 = 1:=by decide
theorem blw_half {n:Nat} (h:3 ≤ n):blw n = 2 * blw ((n+1) / 2):=by
 have h1:=blen_lo (y:=n - 1) (by omega)
 have h2:=blen_hi (n - 1)
 have h3:=blen_pos (y:=n - 1) (by omega)
 have h4:=blen_half (y:=n - 1) (by omega)
 have h5:=blen_pos (y:=(n - 1) / 2) (by omega)
 have e:(n+1) / 2 - 1 = (n - 1) / 2:=by omega
 unfold blw
 rw [e,show blen (n - 1) - 1 = (blen ((n - 1) / 2) - 1)+1 by omega,Nat.pow_succ];omega
section
variable {α:Type} (node:α → α → α)
def bot:Nat → Nat → Nat → α → List α → Option α
 | 0,_,_,h,ps => if ps = [] then some h else none
 | f+1,n,size,h,ps =>
  if size ≤ 1 then (match ps with | [] => some h | _ :: _ => none)
  else if n % 2 = 0 ∧ n = size - 1 then bot f (n / 2) ((size+1) / 2) h ps
  else match ps with
   | [] => none
   | p :: r => if n % 2 = 1 then bot f (n / 2) ((size+1) / 2) (node p h) r else bot f (n / 2) ((size+1) / 2) (node h p) r
theorem bot_one {f n size:Nat} {h:α} {ps:List α} (hs:size ≤ 1):bot node (f+1) n size h ps = match ps with | [] => some h | _ :: _ => none:=by rw [bot.eq_def];dsimp only;rw [if_pos hs]
theorem bot_last {f n size:Nat} {h:α} {ps:List α} (hs:2 ≤ size) (he:n % 2 = 0 ∧ n = size - 1):bot node (f+1) n size h ps = bot node f (n / 2) ((size+1) / 2) h ps:=by rw [bot.eq_def];dsimp only;rw [if_neg (by omega),if_pos he]
theorem bot_nil {f n size:Nat} {h:α} (hs:2 ≤ size) (he:¬ (n % 2 = 0 ∧ n = size - 1)):bot node (f+1) n size h [] = none:=by rw [bot.eq_def];dsimp only;rw [if_neg (by omega),if_neg he]
theorem bot_odd {f n size:Nat} {h p:α} {r:List α} (hs:2 ≤ size) (he:n % 2 = 1):bot node (f+1) n size h (p :: r) = bot node f (n / 2) ((size+1) / 2) (node p h) r:=by rw [bot.eq_def];dsimp only;rw [if_neg (by omega),if_neg (by omega),if_pos he]
theorem bot_even {f n size:Nat} {h p:α} {r:List α} (hs:2 ≤ size) (he:n % 2 = 0) (hn:n ≠ size - 1):bot node (f+1) n size h (p :: r) = bot node f (n / 2) ((size+1) / 2) (node h p) r:=by rw [bot.eq_def];dsimp only;rw [if_neg (by omega),if_neg (by omega),if_neg (by omega)]
theorem bot_fuel:∀ (f g n size:Nat) (h:α) (ps:List α),size ≤ 2 ^ f → size ≤ 2 ^ g → bot node (f+1) n size h ps = bot node (g+1) n size h ps
 | f,g,n,size,h,ps,hf,hg => by
  by_cases hs:size ≤ 1
  ·rw [bot_one node hs,bot_one node hs]
  ·obtain ⟨f',rfl⟩:∃ f',f = f'+1:=⟨f - 1,by cases f with | zero => simp at hf;omega | succ f => omega⟩
   obtain ⟨g',rfl⟩:∃ g',g = g'+1:=⟨g - 1,by cases g with | zero => simp at hg;omega | succ g => omega⟩
   rw [Nat.pow_succ] at hf hg
   have ih:=fun n h ps => bot_fuel f' g' n ((size+1) / 2) h ps (by omega) (by omega)
   by_cases he:n % 2 = 0 ∧ n = size - 1
   ·rw [bot_last node (by omega) he,bot_last node (by omega) he];exact ih _ _ _
   ·cases ps with
    | nil => rw [bot_nil node (by omega) he,bot_nil node (by omega) he]
    | cons p r =>
     by_cases ho:n % 2 = 1
     ·rw [bot_odd node (by omega) ho,bot_odd node (by omega) ho];exact ih _ _ _
     ·rw [bot_even node (by omega) (by omega) (by omega),bot_even node (by omega) (by omega) (by omega)];exact ih _ _ _
theorem bot_left:∀ (f n size:Nat) (h x p:α) (ps:List α),2 ≤ size → size ≤ 2 ^ f → n < blw size → bot node (f+1) n (blw size) h ps = some x → bot node (f+1) n size h (ps ++ [p]) = some (node x p)
 | 0,_,_,_,_,_,_,hs,hf,_,_ => by simp at hf;omega
 | f+1,n,size,h,x,p,ps,hs,hf,hn,hb => by
  rw [Nat.pow_succ] at hf
  by_cases h2:size = 2
  ·subst h2
   rw [blw_two] at hn hb
   rw [bot_one node (by omega)] at hb
   obtain rfl:n = 0:=by omega
   cases ps with
   | cons q qs => simp at hb
   | nil =>
    simp at hb;subst hb
    rw [List.nil_append,bot_even node (by omega) (by omega) (by omega),bot_one node (by omega)]
  ·have hk:=blw_half (n:=size) (by omega)
   have hp:=blw_pos ((size+1) / 2)
   have hlt:=blw_lt (n:=size) (by omega)
   obtain ⟨k',hk'⟩:∃ k',blw ((size+1) / 2) = k':=⟨_,rfl⟩
   rw [hk'] at hk hp
   have ih:=fun h x ps => bot_left f (n / 2) ((size+1) / 2) h x p ps (by omega) (by omega) (by rw [hk'];omega)
   rw [hk'] at ih
   rw [hk] at hb hn hlt
   cases ps with
   | nil => rw [bot_nil node (by omega) (by omega)] at hb;cases hb
   | cons q qs =>
    by_cases ho:n % 2 = 1
    ·rw [bot_odd node (by omega) ho,show (2 * k'+1) / 2 = k' by omega] at hb
     rw [List.cons_append,bot_odd node (by omega) ho]
     exact ih _ _ _ hb
    ·rw [bot_even node (by omega) (by omega) (by omega),show (2 * k'+1) / 2 = k' by omega] at hb
     rw [List.cons_append,bot_even node (by omega) (by omega) (by omega)]
     exact ih _ _ _ hb
theorem bot_right:∀ (f n size:Nat) (h x p:α) (ps:List α),2 ≤ size → size ≤ 2 ^ f → blw size ≤ n → n < size → bot node (f+1) (n - blw size) (size - blw size) h ps = some x → bot node (f+1) n size h (ps ++ [p]) = some (node p x)
 | 0,_,_,_,_,_,_,hs,hf,_,_,_ => by simp at hf;omega
 | f+1,n,size,h,x,p,ps,hs,hf,hn,hns,hb => by
  rw [Nat.pow_succ] at hf
  by_cases h2:size = 2
  ·subst h2
   rw [blw_two] at hn hb
   rw [bot_one node (by omega)] at hb
   obtain rfl:n = 1:=by omega
   cases ps with
   | cons q qs => simp at hb
   | nil =>
    simp at hb;subst hb
    rw [List.nil_append,bot_odd node (by omega) (by omega),bot_one node (by omega)]
  ·have hk:=blw_half (n:=size) (by omega)
   have hp:=blw_pos ((size+1) / 2)
   have hlt:=blw_lt (n:=size) (by omega)
   obtain ⟨k',hk'⟩:∃ k',blw ((size+1) / 2) = k':=⟨_,rfl⟩
   rw [hk'] at hk hp
   have ih:=fun h x ps => bot_right f (n / 2) ((size+1) / 2) h x p ps (by omega) (by omega) (by rw [hk'];omega) (by omega)
   rw [hk'] at ih
   rw [hk] at hb hn hlt
   by_cases h1:size - 2 * k' ≤ 1
   ·rw [bot_one node h1] at hb
    cases ps with
    | cons q qs => simp at hb
    | nil =>
     simp at hb;subst hb
     rw [List.nil_append,bot_last node (by omega) (by omega)]
     have:=ih h h []
     rw [List.nil_append] at this
     refine this ?_
     rw [bot_one node (by omega)]
   ·have e1:(size - 2 * k'+1) / 2 = (size+1) / 2 - k':=by omega
    have e2:(n - 2 * k') / 2 = n / 2 - k':=by omega
    by_cases hl:n % 2 = 0 ∧ n = size - 1
    ·rw [bot_last node (by omega) (by omega),e1,e2] at hb
     rw [bot_last node (by omega) hl]
     exact ih _ _ _ hb
    ·cases ps with
     | nil => rw [bot_nil node (by omega) (by omega)] at hb;cases hb
     | cons q qs =>
      by_cases ho:n % 2 = 1
      ·rw [bot_odd node (by omega) (by omega),e1,e2] at hb
       rw [List.cons_append,bot_odd node (by omega) ho]
       exact ih _ _ _ hb
      ·rw [bot_even node (by omega) (by omega) (by omega),e1,e2] at hb
       rw [List.cons_append,bot_even node (by omega) (by omega) (by omega)]
       exact ih _ _ _ hb
end
end Go.Proofs.YtpdkpdpkggepcaaGreatDoor
