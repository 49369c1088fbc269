/- Contracts of math/bits.Len64 (the shelf's, at this dump), shape.Split. -/
import Derived.Test.YtpdkpdpkggepcaaGreatDoorRows
import Derived.Test.YtpdkpdpkggepcaaGreatDoorLogPlain
import Derived.Shelf.Strconv.Itoa0
namespace Go.Proofs.YtpdkpdpkggepcaaGreatDoor
open Go.ChangeShapes Go.WideShapes Go.ChangeAt Go.RowKit Go.Shelf
set_option linter.unusedVariables false
def lays129_ren:Go.Shelf.Ren:=⟨fun | 129 => 89 | n => n,fun | 53 => 23 | 3 => 3 | 4 => 4 | 46 => 131 | 5 => 5 | 9 => 9 | n => n,fun | n => n⟩
theorem lays129:Go.Proofs.Lays.n129 Tryz.prog lays129_ren:={
 mixed:=by kernel_rfl
 f129:=Tryz.func89.trans (congrArg some (by kernel_rfl))
 t3:=Tryz.underlying3
 a3:=Tryz.isAgg3
 z3:=Tryz.sizeOf3
 v3:=Tryz.zeroValue3
 t4:=Tryz.underlying4
 a4:=Tryz.isAgg4
 z4:=Tryz.sizeOf4
 v4:=Tryz.zeroValue4
 t5:=Tryz.underlying5
 a5:=Tryz.isAgg5
 z5:=Tryz.sizeOf5
 v5:=Tryz.zeroValue5
 t9:=Tryz.underlying9
 a9:=Tryz.isAgg9
 z9:=Tryz.sizeOf9
 v9:=Tryz.zeroValue9
 t46:=Tryz.underlying131
 a46:=Tryz.isAgg131
 z46:=Tryz.sizeOf131
 v46:=Tryz.zeroValue131
 t53:=Tryz.underlying23
 a53:=Tryz.isAgg23
 z53:=Tryz.sizeOf23
 v53:=Tryz.zeroValue23 }
theorem bitLenAux_eq:∀ f y:Nat,y < 2 ^ f → Lib.bitLenAux f y = blen y
 | 0, y, h => by have : y = 0 := by simpa using h
                 subst this;rfl
 | f+1,y,h => by
  unfold Lib.bitLenAux
  by_cases h0:y = 0
  ·rw [if_pos h0,h0,blen_zero]
  ·have:=bitLenAux_eq f (y / 2) (by rw [Nat.pow_succ] at h;omega)
   have hh:=blen_half (y:=y) (by omega)
   rw [if_neg h0,this];omega
theorem len64_any (x:Int) (w:World) (h0:0 ≤ x) (h1:x < 18446744073709551616) :
 Calls Tryz.prog 89 #[.int .u64 x] w fun e w' => e = .returned (.int .i64 (blenI x)) ∧ w = w' :=
 (Any.bits_Len64 lays129 x w h0 (by omega)).mono fun e w' ⟨he,hw⟩ => ⟨by
  rw [he,show Lib.bitLen x.toNat = blen x.toNat from bitLenAux_eq 64 _ (by omega)];unfold blenI;rfl,hw.symm⟩
theorem blwI_shl {n:Int} (h2:2 ≤ n) (h:n ≤ 9223372036854775808):IntKind.u64.wrap (2 ^ ((blenI (n - 1)).toNat - 1)) = blwI n:=by
 have e:=blenI_lg (n:=n) (by omega)
 have p:=lgI_pos h2
 rw [e,show (lgI n).toNat - 1 = (lgI n - 1).toNat by omega,← blwI_pow h2]
 have:=blwI_bd h2
 exact IntWalk.u64_in _ (by omega)
theorem split_yes (n:Int) (w:World) (h2:2 ≤ n) (h:n ≤ 9223372036854775808) :
 Calls Tryz.prog 52 #[.int .u64 n] w fun e w' => e = .returned (.tuple #[.int .u64 (blwI n),.bool true]) ∧ w = w':=by
 have hb:=blenI_bd (y:=n - 1) (by omega)
 have h1:1 ≤ blenI (n - 1):=by rw [blenI_lg (by omega)];exact lgI_pos h2
 have HS:=Lib.hid (blwI_shl h2 h)
 go_enter Tryz.func52,Tryz.ntmps52
 go_wp2_with (go_at_call 89;refine (len64_any _ _ (by omega) (by omega)).mono ?_;rintro e w' ⟨rfl,rfl⟩)
 go_ret2
 exact ⟨ret_pair HS.out rfl,rfl⟩
theorem split_no (n:Int) (w:World) (h0:0 ≤ n) (hn:n < 18446744073709551616) (h:n < 2 ∨ 9223372036854775808 < n) :
 Calls Tryz.prog 52 #[.int .u64 n] w fun e w' => e = .returned (.tuple #[.int .u64 0,.bool false]) ∧ w = w':=by
 rcases h with h | h
 all_goals
  go_enter Tryz.func52,Tryz.ntmps52
  go_wp2
  go_ret2
  exact ⟨rfl,rfl⟩
end Go.Proofs.YtpdkpdpkggepcaaGreatDoor
