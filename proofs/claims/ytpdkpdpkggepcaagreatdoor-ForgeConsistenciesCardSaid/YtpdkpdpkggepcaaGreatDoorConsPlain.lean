/- Plain facts: a consistency proof folded from below. No program in sight. -/
import Derived.Test.YtpdkpdpkggepcaaGreatDoorVerifyIncl
import Derived.Test.YtpdkpdpkggepcaaGreatDoorSpanPlain
namespace Go.Proofs.YtpdkpdpkggepcaaGreatDoor
open Go.ChangeShapes Go.WideShapes Go.ChangeAt Go.RowKit
set_option linter.unusedVariables false
section
variable {α:Type} (node:α → α → α)
def node2 (x y:Bool × α × α):Bool × α × α:=if x.1 = true then (false,node x.2.1 y.2.1,node x.2.2 y.2.2) else (false,x.2.1,node x.2.2 y.2.2)
def sib (p:α):Bool × α × α:=(true,p,p)
def CSays (n l:Nat) (h0 h1:α) (ps:List α) (r0 r1:α):Prop:=Says (node2 node) n l (false,h0,h1) (ps.map sib) (false,r0,r1)
theorem CSays.end {n:Nat} {h0 h1 r0 r1:α} {ps:List α} (hs:CSays node n 0 h0 h1 ps r0 r1):ps = [] ∧ r0 = h0 ∧ r1 = h1:=by
 have:=Says.end _ hs
 refine ⟨by simpa using this.1,?_,?_⟩
 ·exact congrArg (fun x => x.2.1) this.2
 ·exact congrArg (fun x => x.2.2) this.2
theorem CSays.odd {n l:Nat} {h0 h1 r0 r1 p:α} {ps:List α} (hs:CSays node n l h0 h1 (p :: ps) r0 r1) (hl:0 < l) (ho:n % 2 = 1):CSays node (n / 2) (l / 2) (node p h0) (node p h1) ps r0 r1:=Says.odd _ hs hl ho
theorem CSays.even {n l:Nat} {h0 h1 r0 r1 p:α} {ps:List α} (hs:CSays node n l h0 h1 (p :: ps) r0 r1) (hl:0 < l) (he:n % 2 = 0) (hn:n ≠ l):CSays node (n / 2) (l / 2) h0 (node h1 p) ps r0 r1:=Says.even _ hs hl he hn
theorem CSays.nil {n l:Nat} {h0 h1 r0 r1:α} (hs:CSays node n l h0 h1 [] r0 r1) (hn:n ≤ l):l = 0 ∧ r0 = h0 ∧ r1 = h1:=by
 have:=Says.nil _ hs hn
 refine ⟨this.1,?_,?_⟩
 ·exact congrArg (fun x => x.2.1) this.2
 ·exact congrArg (fun x => x.2.2) this.2
theorem CSays.up {n:Nat} {h0 h1 r0 r1:α} {ps:List α} (hs:CSays node n n h0 h1 ps r0 r1) (k:Nat) (hk:∀ j,j < k → n / 2 ^ j % 2 = 0 ∧ n / 2 ^ j ≠ 0):CSays node (n / 2 ^ k) (n / 2 ^ k) h0 h1 ps r0 r1:=Says.up _ hs k hk
theorem div_one_of {P x:Nat} (h1:P ≤ x) (h2:x < 2 * P):x / P = 1:=by
 refine Nat.div_eq_of_lt_le ?_ ?_ <;> omega
theorem level_full {P R:Nat} (hP:0 < P) (hR:0 < R):(P * R - 1) / P+1 = R:=by
 have:(P * R - 1) / P = R - 1:=by
  refine Nat.div_eq_of_lt_le ?_ ?_
  ·rw [Nat.mul_comm (R - 1) P,Nat.mul_sub];have:=Nat.le_mul_of_pos_right P hR;omega
  ·rw [show R - 1+1 = R by omega,Nat.mul_comm R P];have:=Nat.mul_pos hP hR;omega
 omega
theorem level_blw {P q x:Nat} (hP:0 < P) (h1:P * 2 ^ q ≤ x) (h2:x < P * 2 ^ q * 2):blw (x / P+1) = 2 ^ q:=by
 have a1:2 ^ q ≤ x / P:=(Nat.le_div_iff_mul_le hP).2 (by rw [Nat.mul_comm];exact h1)
 have a2:x / P < 2 ^ (q+1):=(Nat.div_lt_iff_lt_mul hP).2 (by rw [Nat.pow_succ,Nat.mul_comm,← Nat.mul_assoc];exact h2)
 exact blw_eq (by omega) (by omega)
theorem blwI_two {n:Int} (h:2 ≤ n):∃ q:Nat,(blwI n).toNat = 2 ^ q:=⟨_,blwI_toNat (by omega)⟩
theorem cons_bot:∀ (f:Nat) (g:Int → α) (old b e:Int),0 ≤ b → b < old → old < e → e - b ≤ pow2 f → f ≤ 64 →
 ∃ (k n:Nat) (rest:List (Int × Int)),(old - b).toNat = 2 ^ k * (n+1) ∧ n % 2 = 0 ∧ proofL f old b e = (if 0 < old - (2 ^ k:Nat) then [(old - (2 ^ k:Nat),old)] else []) ++ rest ∧
  bot (node2 node) (f+1) n ((e - b - 1).toNat / 2 ^ k+1) (false,treeT node g (old - (2 ^ k:Nat)) old,treeT node g (old - (2 ^ k:Nat)) old) (rest.map fun s => sib (treeT node g s.1 s.2)) = some (false,treeT node g b old,treeT node g b e)
 | 0,g,old,b,e,h0,h1,h2,hp,_ => by rw [pow2_zero] at hp;omega
 | f+1,g,old,b,e,h0,h1,h2,hp,hf => by
  have hb:=blwI_bd (n:=e - b) (by omega)
  have hk:=blwI_le_pow (n:=e - b) (f:=f) (by omega) hp
  have hps:=pow2_succ f
  have hp64:=pow2_le (show f+1 ≤ 64 by omega)
  have hn:=pow2_nat hp (by omega)
  obtain ⟨q,hq⟩:=blwI_two (n:=e - b) (by omega)
  have e1:blw (e - b).toNat = (blwI (e - b)).toNat:=(blwI_toNat (by omega)).symm
  have hT:=treeT_node node g b e (by omega) (by omega)
  rw [proofL,if_neg (by omega)]
  obtain ⟨K,hK⟩:∃ k,blwI (e - b) = k:=⟨_,rfl⟩
  rw [hK] at hb hk hq e1 hT ⊢
  have hnk:K.toNat ≤ 2 ^ f:=pow2_nat (by omega) (by omega)
  have hpw:(2:Nat) ^ (f+1) = 2 ^ f * 2:=Nat.pow_succ 2 f
  by_cases hx:old ≤ b+K
  ·rw [if_pos hx]
   by_cases ho:old = b+K
   ·subst ho
    refine ⟨q,0,[(b+K,e)],by omega,rfl,?_,?_⟩
    ·rw [proofL_end,← hq,show b+K - (K.toNat:Nat) = b by omega]
    ·rw [← hq,show b+K - (K.toNat:Nat) = b by omega,div_one_of (by omega) (by omega),List.map_cons,List.map_nil]
     rw [bot_even _ (by omega) (by omega) (by omega),bot_one _ (by omega)]
     dsimp only
     rw [hT];rfl
   ·obtain ⟨k,n,rest,i1,i2,i3,i4⟩:=cons_bot f g old b (b+K) h0 h1 (by omega) (by omega) (by omega)
    have hkq:k < q:=by
     have h3:(old - b).toNat < 2 ^ q:=by omega
     have h4:2 ^ k ≤ (old - b).toNat:=by rw [i1];exact Nat.le_mul_of_pos_right _ (by omega)
     exact (Nat.pow_lt_pow_iff_right (a:=2) (by decide)).1 (by omega)
    obtain ⟨P,hP⟩:∃ P,2 ^ k = P:=⟨_,rfl⟩
    obtain ⟨R,hR⟩:∃ R,2 ^ (q - k) = R:=⟨_,rfl⟩
    have hPR:2 ^ q = P * R:=by rw [← hP,← hR,← Nat.pow_add];congr 1;omega
    have hP0:0 < P:=by rw [← hP];exact Nat.two_pow_pos _
    have hR0:0 < R:=by rw [← hR];exact Nat.two_pow_pos _
    have hKK:(b+K - b - 1).toNat = P * R - 1:=by omega
    have hbw:blw ((e - b - 1).toNat / P+1) = R:=by
     rw [← hR];refine level_blw hP0 ?_ ?_ <;> (rw [hR,← hPR];omega)
    have hsz:(e - b - 1).toNat / P+1 ≤ 2 ^ (f+1):=by have:=Nat.div_le_self (e - b - 1).toNat P;omega
    have h2s:2 ≤ (e - b - 1).toNat / P+1:=by have:1 ≤ (e - b - 1).toNat / P:=(Nat.le_div_iff_mul_le hP0).2 (by have:=Nat.le_mul_of_pos_right P hR0;omega);omega
    have hRf:R ≤ 2 ^ f:=by have:=Nat.le_mul_of_pos_left R hP0;omega
    have hnR:n < R:=by
     have:P * (n+1) < P * R:=by rw [hP] at i1;omega
     have:=Nat.lt_of_mul_lt_mul_left this;omega
    refine ⟨k,n,rest ++ [(b+K,e)],i1,i2,by rw [i3,List.append_assoc],?_⟩
    rw [hP] at i4 ⊢
    rw [hKK,level_full hP0 hR0,bot_fuel _ f (f+1) _ _ _ _ hRf (by omega)] at i4
    rw [List.map_append,List.map_cons,List.map_nil]
    have:=bot_left (node2 node) (f+1) n ((e - b - 1).toNat / P+1) _ _ (sib (treeT node g (b+K) e)) _ h2s hsz (by rw [hbw];exact hnR) (by rw [hbw];exact i4)
    rw [this,hT];rfl
  ·rw [if_neg hx]
   obtain ⟨k,n,rest,i1,i2,i3,i4⟩:=cons_bot f g old (b+K) e (by omega) (by omega) h2 (by omega) (by omega)
   have hkq:k < q:=by
    have h3:(old - (b+K)).toNat < 2 ^ q:=by omega
    have h4:2 ^ k ≤ (old - (b+K)).toNat:=by rw [i1];exact Nat.le_mul_of_pos_right _ (by omega)
    exact (Nat.pow_lt_pow_iff_right (a:=2) (by decide)).1 (by omega)
   obtain ⟨P,hP⟩:∃ P,2 ^ k = P:=⟨_,rfl⟩
   obtain ⟨R,hR⟩:∃ R,2 ^ (q - k) = R:=⟨_,rfl⟩
   have hPR:2 ^ q = P * R:=by rw [← hP,← hR,← Nat.pow_add];congr 1;omega
   have hP0:0 < P:=by rw [← hP];exact Nat.two_pow_pos _
   have hR0:0 < R:=by rw [← hR];exact Nat.two_pow_pos _
   have hR2:R % 2 = 0:=by rw [← hR,show q - k = (q - k - 1)+1 by omega,Nat.pow_succ];omega
   have hbw:blw ((e - b - 1).toNat / P+1) = R:=by
    rw [← hR];refine level_blw hP0 ?_ ?_ <;> (rw [hR,← hPR];omega)
   have hsz:(e - b - 1).toNat / P+1 ≤ 2 ^ (f+1):=by have:=Nat.div_le_self (e - b - 1).toNat P;omega
   have h2s:2 ≤ (e - b - 1).toNat / P+1:=by have:1 ≤ (e - b - 1).toNat / P:=(Nat.le_div_iff_mul_le hP0).2 (by have:=Nat.le_mul_of_pos_right P hR0;omega);omega
   have hdv:(e - b - 1).toNat / P = (e - (b+K) - 1).toNat / P+R:=by
    rw [show (e - b - 1).toNat = (e - (b+K) - 1).toNat+P * R by omega,Nat.add_mul_div_left _ _ hP0]
   have hle:n ≤ (e - (b+K) - 1).toNat / P:=(Nat.le_div_iff_mul_le hP0).2 (by
    rw [hP] at i1
    have:n * P+P = P * (n+1):=by rw [Nat.mul_add,Nat.mul_comm];simp
    omega)
   have hRf:(e - (b+K) - 1).toNat / P+1 ≤ 2 ^ f:=by have:=Nat.div_le_self (e - (b+K) - 1).toNat P;omega
   refine ⟨k,n+R,rest ++ [(b,b+K)],?_,by omega,by rw [i3,List.append_assoc],?_⟩
   ·rw [hP] at i1 ⊢
    rw [show n+R+1 = (n+1)+R by omega,Nat.mul_add,← i1,← hPR];omega
   ·rw [hP] at i4 ⊢
    rw [bot_fuel _ f (f+1) _ _ _ _ hRf (by omega)] at i4
    rw [List.map_append,List.map_cons,List.map_nil]
    have:=bot_right (node2 node) (f+1) (n+R) ((e - b - 1).toNat / P+1) _ _ (sib (treeT node g b (b+K))) _ h2s hsz (by rw [hbw];omega) (by omega) (by rw [hbw,show n+R - R = n by omega,show (e - b - 1).toNat / P+1 - R = (e - (b+K) - 1).toNat / P+1 by omega];exact i4)
    have hTo:=treeT_node node g b old (by omega) (by omega)
    have hbo:blwI (old - b) = K:=(blwI_eq (n:=old - b) (p:=K) (e:=q) (by omega) (by omega) (by omega)).symm
    rw [hbo] at hTo
    rw [this,hT,hTo];rfl
end
end Go.Proofs.YtpdkpdpkggepcaaGreatDoor
