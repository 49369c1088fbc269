/- Contracts of bits.Ones, Count and Left at each kind, and of the reference's. -/
import Derived.Test.YtaekhijmnbeahaaBitsAdd
import Derived.Test.YtaekhijmnbeahaaLogPlain
namespace Go.Proofs.Ytaekhijmnbeahaa
open Go.ChangeShapes Go.WideShapes Go.ChangeAt Go.RowKit
set_option linter.unusedVariables false

theorem left_A8 (x n : Int) (w : World) (hx : 0 ≤ x) (hx' : x < 256) (hn : 0 ≤ n) (hn' : n ≤ 9223372036854775807) :
    Calls Try.prog 40 #[.int .u8 x, .int .i64 n] w fun e w' => e = .returned (.tuple #[.int .u8 (leftV 256 x n.toNat), .bool (leftB 256 x n.toNat)]) ∧ w = w' := by
  have hm : (256 : Int) = 2 ^ 8 := by decide
  by_cases h : x * 2 ^ n.toNat < 256
  · have hy := left_yes 8 256 x n.toNat hm hx h
    have ht : (x * 2 ^ min n.toNat 8 % 256 / 2 ^ min n.toNat 8 != x) = false := by rw [hy.2]; simp
    have hv : x * 2 ^ min n.toNat 8 % 256 = x * 2 ^ n.toNat := by exact hy.1
    rw [leftV_yes h, leftB_yes h]
    have HV := Lib.hid hv
    clear hy hm h hv
    go_enter Try.func40, Try.ntmps40
    go_wp2
    go_ret2
    exact ⟨ret_pair HV.out rfl, rfl⟩
  · have hy := left_no 8 256 x n.toNat hm (by omega)
    have ht : (x * 2 ^ min n.toNat 8 % 256 / 2 ^ min n.toNat 8 != x) = true := by simpa using hy
    rw [leftV_no (by omega), leftB_no (by omega)]
    clear hy hm h
    go_enter Try.func40, Try.ntmps40
    go_wp2
    go_ret2
    exact ⟨rfl, rfl⟩
theorem left_A8_neg (x n : Int) (w : World) (hx : 0 ≤ x) (hx' : x < 256) (hn : n < 0) (hn' : -9223372036854775808 ≤ n) :
    Calls Try.prog 40 #[.int .u8 x, .int .i64 n] w fun e w' => e = .returned (.tuple #[.int .u8 0, .bool false]) ∧ w = w' := by
  go_enter Try.func40, Try.ntmps40
  go_wp2
  go_ret2
  exact ⟨rfl, rfl⟩

theorem left_A16 (x n : Int) (w : World) (hx : 0 ≤ x) (hx' : x < 65536) (hn : 0 ≤ n) (hn' : n ≤ 9223372036854775807) :
    Calls Try.prog 42 #[.int .u16 x, .int .i64 n] w fun e w' => e = .returned (.tuple #[.int .u16 (leftV 65536 x n.toNat), .bool (leftB 65536 x n.toNat)]) ∧ w = w' := by
  have hm : (65536 : Int) = 2 ^ 16 := by decide
  by_cases h : x * 2 ^ n.toNat < 65536
  · have hy := left_yes 16 65536 x n.toNat hm hx h
    have ht : (IntKind.u16.wrap (x * 2 ^ min n.toNat 16) / 2 ^ min n.toNat 16 != x) = false := by rw [wrap_u16]; rw [hy.2]; simp
    have hv : IntKind.u16.wrap (x * 2 ^ min n.toNat 16) = x * 2 ^ n.toNat := by rw [wrap_u16]; exact hy.1
    rw [leftV_yes h, leftB_yes h]
    have HV := Lib.hid hv
    clear hy hm h hv
    go_enter Try.func42, Try.ntmps42
    go_wp2
    go_ret2
    exact ⟨ret_pair HV.out rfl, rfl⟩
  · have hy := left_no 16 65536 x n.toNat hm (by omega)
    have ht : (IntKind.u16.wrap (x * 2 ^ min n.toNat 16) / 2 ^ min n.toNat 16 != x) = true := by rw [wrap_u16]; simpa using hy
    rw [leftV_no (by omega), leftB_no (by omega)]
    clear hy hm h
    go_enter Try.func42, Try.ntmps42
    go_wp2
    go_ret2
    exact ⟨rfl, rfl⟩
theorem left_A16_neg (x n : Int) (w : World) (hx : 0 ≤ x) (hx' : x < 65536) (hn : n < 0) (hn' : -9223372036854775808 ≤ n) :
    Calls Try.prog 42 #[.int .u16 x, .int .i64 n] w fun e w' => e = .returned (.tuple #[.int .u16 0, .bool false]) ∧ w = w' := by
  go_enter Try.func42, Try.ntmps42
  go_wp2
  go_ret2
  exact ⟨rfl, rfl⟩

theorem left_A32 (x n : Int) (w : World) (hx : 0 ≤ x) (hx' : x < 4294967296) (hn : 0 ≤ n) (hn' : n ≤ 9223372036854775807) :
    Calls Try.prog 43 #[.int .u32 x, .int .i64 n] w fun e w' => e = .returned (.tuple #[.int .u32 (leftV 4294967296 x n.toNat), .bool (leftB 4294967296 x n.toNat)]) ∧ w = w' := by
  have hm : (4294967296 : Int) = 2 ^ 32 := by decide
  by_cases h : x * 2 ^ n.toNat < 4294967296
  · have hy := left_yes 32 4294967296 x n.toNat hm hx h
    have ht : (x * 2 ^ min n.toNat 32 % 4294967296 / 2 ^ min n.toNat 32 != x) = false := by rw [hy.2]; simp
    have hv : x * 2 ^ min n.toNat 32 % 4294967296 = x * 2 ^ n.toNat := by exact hy.1
    rw [leftV_yes h, leftB_yes h]
    have HV := Lib.hid hv
    clear hy hm h hv
    go_enter Try.func43, Try.ntmps43
    go_wp2
    go_ret2
    exact ⟨ret_pair HV.out rfl, rfl⟩
  · have hy := left_no 32 4294967296 x n.toNat hm (by omega)
    have ht : (x * 2 ^ min n.toNat 32 % 4294967296 / 2 ^ min n.toNat 32 != x) = true := by simpa using hy
    rw [leftV_no (by omega), leftB_no (by omega)]
    clear hy hm h
    go_enter Try.func43, Try.ntmps43
    go_wp2
    go_ret2
    exact ⟨rfl, rfl⟩
theorem left_A32_neg (x n : Int) (w : World) (hx : 0 ≤ x) (hx' : x < 4294967296) (hn : n < 0) (hn' : -9223372036854775808 ≤ n) :
    Calls Try.prog 43 #[.int .u32 x, .int .i64 n] w fun e w' => e = .returned (.tuple #[.int .u32 0, .bool false]) ∧ w = w' := by
  go_enter Try.func43, Try.ntmps43
  go_wp2
  go_ret2
  exact ⟨rfl, rfl⟩

theorem left_A64 (x n : Int) (w : World) (hx : 0 ≤ x) (hx' : x < 18446744073709551616) (hn : 0 ≤ n) (hn' : n ≤ 9223372036854775807) :
    Calls Try.prog 44 #[.int .u64 x, .int .i64 n] w fun e w' => e = .returned (.tuple #[.int .u64 (leftV 18446744073709551616 x n.toNat), .bool (leftB 18446744073709551616 x n.toNat)]) ∧ w = w' := by
  have hm : (18446744073709551616 : Int) = 2 ^ 64 := by decide
  by_cases h : x * 2 ^ n.toNat < 18446744073709551616
  · have hy := left_yes 64 18446744073709551616 x n.toNat hm hx h
    have ht : (IntKind.u64.wrap (x * 2 ^ min n.toNat 64) / 2 ^ min n.toNat 64 != x) = false := by rw [wrap_u64]; rw [hy.2]; simp
    have hv : IntKind.u64.wrap (x * 2 ^ min n.toNat 64) = x * 2 ^ n.toNat := by rw [wrap_u64]; exact hy.1
    rw [leftV_yes h, leftB_yes h]
    have HV := Lib.hid hv
    clear hy hm h hv
    go_enter Try.func44, Try.ntmps44
    go_wp2
    go_ret2
    exact ⟨ret_pair HV.out rfl, rfl⟩
  · have hy := left_no 64 18446744073709551616 x n.toNat hm (by omega)
    have ht : (IntKind.u64.wrap (x * 2 ^ min n.toNat 64) / 2 ^ min n.toNat 64 != x) = true := by rw [wrap_u64]; simpa using hy
    rw [leftV_no (by omega), leftB_no (by omega)]
    clear hy hm h
    go_enter Try.func44, Try.ntmps44
    go_wp2
    go_ret2
    exact ⟨rfl, rfl⟩
theorem left_A64_neg (x n : Int) (w : World) (hx : 0 ≤ x) (hx' : x < 18446744073709551616) (hn : n < 0) (hn' : -9223372036854775808 ≤ n) :
    Calls Try.prog 44 #[.int .u64 x, .int .i64 n] w fun e w' => e = .returned (.tuple #[.int .u64 0, .bool false]) ∧ w = w' := by
  go_enter Try.func44, Try.ntmps44
  go_wp2
  go_ret2
  exact ⟨rfl, rfl⟩

theorem left_Au (x n : Int) (w : World) (hx : 0 ≤ x) (hx' : x < 18446744073709551616) (hn : 0 ≤ n) (hn' : n ≤ 9223372036854775807) :
    Calls Try.prog 45 #[.int .u64 x, .int .i64 n] w fun e w' => e = .returned (.tuple #[.int .u64 (leftV 18446744073709551616 x n.toNat), .bool (leftB 18446744073709551616 x n.toNat)]) ∧ w = w' := by
  have hm : (18446744073709551616 : Int) = 2 ^ 64 := by decide
  by_cases h : x * 2 ^ n.toNat < 18446744073709551616
  · have hy := left_yes 64 18446744073709551616 x n.toNat hm hx h
    have ht : (IntKind.u64.wrap (x * 2 ^ min n.toNat 64) / 2 ^ min n.toNat 64 != x) = false := by rw [wrap_u64]; rw [hy.2]; simp
    have hv : IntKind.u64.wrap (x * 2 ^ min n.toNat 64) = x * 2 ^ n.toNat := by rw [wrap_u64]; exact hy.1
    rw [leftV_yes h, leftB_yes h]
    have HV := Lib.hid hv
    clear hy hm h hv
    go_enter Try.func45, Try.ntmps45
    go_wp2
    go_ret2
    exact ⟨ret_pair HV.out rfl, rfl⟩
  · have hy := left_no 64 18446744073709551616 x n.toNat hm (by omega)
    have ht : (IntKind.u64.wrap (x * 2 ^ min n.toNat 64) / 2 ^ min n.toNat 64 != x) = true := by rw [wrap_u64]; simpa using hy
    rw [leftV_no (by omega), leftB_no (by omega)]
    clear hy hm h
    go_enter Try.func45, Try.ntmps45
    go_wp2
    go_ret2
    exact ⟨rfl, rfl⟩
theorem left_Au_neg (x n : Int) (w : World) (hx : 0 ≤ x) (hx' : x < 18446744073709551616) (hn : n < 0) (hn' : -9223372036854775808 ≤ n) :
    Calls Try.prog 45 #[.int .u64 x, .int .i64 n] w fun e w' => e = .returned (.tuple #[.int .u64 0, .bool false]) ∧ w = w' := by
  go_enter Try.func45, Try.ntmps45
  go_wp2
  go_ret2
  exact ⟨rfl, rfl⟩

theorem left_Ao (x n : Int) (w : World) (hx : 0 ≤ x) (hx' : x < 65536) (hn : 0 ≤ n) (hn' : n ≤ 9223372036854775807) :
    Calls Try.prog 46 #[.int .u16 x, .int .i64 n] w fun e w' => e = .returned (.tuple #[.int .u16 (leftV 65536 x n.toNat), .bool (leftB 65536 x n.toNat)]) ∧ w = w' := by
  have hm : (65536 : Int) = 2 ^ 16 := by decide
  by_cases h : x * 2 ^ n.toNat < 65536
  · have hy := left_yes 16 65536 x n.toNat hm hx h
    have ht : (IntKind.u16.wrap (x * 2 ^ min n.toNat 16) / 2 ^ min n.toNat 16 != x) = false := by rw [wrap_u16]; rw [hy.2]; simp
    have hv : IntKind.u16.wrap (x * 2 ^ min n.toNat 16) = x * 2 ^ n.toNat := by rw [wrap_u16]; exact hy.1
    rw [leftV_yes h, leftB_yes h]
    have HV := Lib.hid hv
    clear hy hm h hv
    go_enter Try.func46, Try.ntmps46
    go_wp2
    go_ret2
    exact ⟨ret_pair HV.out rfl, rfl⟩
  · have hy := left_no 16 65536 x n.toNat hm (by omega)
    have ht : (IntKind.u16.wrap (x * 2 ^ min n.toNat 16) / 2 ^ min n.toNat 16 != x) = true := by rw [wrap_u16]; simpa using hy
    rw [leftV_no (by omega), leftB_no (by omega)]
    clear hy hm h
    go_enter Try.func46, Try.ntmps46
    go_wp2
    go_ret2
    exact ⟨rfl, rfl⟩
theorem left_Ao_neg (x n : Int) (w : World) (hx : 0 ≤ x) (hx' : x < 65536) (hn : n < 0) (hn' : -9223372036854775808 ≤ n) :
    Calls Try.prog 46 #[.int .u16 x, .int .i64 n] w fun e w' => e = .returned (.tuple #[.int .u16 0, .bool false]) ∧ w = w' := by
  go_enter Try.func46, Try.ntmps46
  go_wp2
  go_ret2
  exact ⟨rfl, rfl⟩

theorem left_As (x n : Int) (w : World) (hx : 0 ≤ x) (hx' : x < 256) (hn : 0 ≤ n) (hn' : n ≤ 9223372036854775807) :
    Calls Try.prog 47 #[.int .u8 x, .int .i64 n] w fun e w' => e = .returned (.tuple #[.int .u8 (leftV 256 x n.toNat), .bool (leftB 256 x n.toNat)]) ∧ w = w' := by
  have hm : (256 : Int) = 2 ^ 8 := by decide
  by_cases h : x * 2 ^ n.toNat < 256
  · have hy := left_yes 8 256 x n.toNat hm hx h
    have ht : (x * 2 ^ min n.toNat 8 % 256 / 2 ^ min n.toNat 8 != x) = false := by rw [hy.2]; simp
    have hv : x * 2 ^ min n.toNat 8 % 256 = x * 2 ^ n.toNat := by exact hy.1
    rw [leftV_yes h, leftB_yes h]
    have HV := Lib.hid hv
    clear hy hm h hv
    go_enter Try.func47, Try.ntmps47
    go_wp2
    go_ret2
    exact ⟨ret_pair HV.out rfl, rfl⟩
  · have hy := left_no 8 256 x n.toNat hm (by omega)
    have ht : (x * 2 ^ min n.toNat 8 % 256 / 2 ^ min n.toNat 8 != x) = true := by simpa using hy
    rw [leftV_no (by omega), leftB_no (by omega)]
    clear hy hm h
    go_enter Try.func47, Try.ntmps47
    go_wp2
    go_ret2
    exact ⟨rfl, rfl⟩
theorem left_As_neg (x n : Int) (w : World) (hx : 0 ≤ x) (hx' : x < 256) (hn : n < 0) (hn' : -9223372036854775808 ≤ n) :
    Calls Try.prog 47 #[.int .u8 x, .int .i64 n] w fun e w' => e = .returned (.tuple #[.int .u8 0, .bool false]) ∧ w = w' := by
  go_enter Try.func47, Try.ntmps47
  go_wp2
  go_ret2
  exact ⟨rfl, rfl⟩

theorem refleft_8 (x n : Int) (w : World) (hx : 0 ≤ x) (hx' : x < 256) (hn : 0 ≤ n) (hn' : n ≤ 9223372036854775807) :
    Calls Try.prog 41 #[.int .i64 8, .int .u64 x, .int .i64 n] w fun e w' => e = .returned (.tuple #[.int .u64 (leftV 256 x n.toNat), .bool (leftB 256 x n.toNat)]) ∧ w = w' := by
  obtain ⟨k, rfl⟩ := Int.eq_ofNat_of_zero_le hn
  rw [Int.toNat_natCast]
  have hg := fun i h => pow_grow x i k hx h
  have hs := fun i => pow_next x i
  have H0 : Hid (x * 2 ^ 0 = x) := Lib.hid (by simp)
  have HG := Lib.hid hg
  have HS := Lib.hid hs
  clear hg hs
  go_enter Try.func41, Try.ntmps41
  go_wp2
  go_loop [1, 8] (fun v i => ∃ j : Nat, j ≤ k ∧ i = .int .i64 j ∧ ∃ y : Int, Hid (y = x * 2 ^ j) ∧ v = .int .u64 y ∧ 0 ≤ y ∧ y < 256) (fun _ i => k - (intOf i).toNat)
  case atStart => exact ⟨0, Nat.zero_le _, rfl, x, Lib.hid (H0.out).symm, rfl, hx, hx'⟩
  case round =>
    obtain ⟨j, hj, rfl, y, HY, rfl, hy, hy'⟩ := hrel
    by_cases hlt : j < k
    · by_cases h0 : 0 < y
      · by_cases hb : y < 128
        · go_wp2_with (go_at_call 73; refine (most_8 _).mono ?_; rintro e w' ⟨rfl, rfl⟩)
          go_round
          case rel => exact ⟨j + 1, by omega, by go_num, y * 2, Lib.hid (by have := HS.out j; have := HY.out; omega), by go_num, by omega, by omega⟩
          case measure => simp [intOf]; omega
        · have hno : 256 ≤ x * 2 ^ k := by have h1 := HG.out (j + 1) (by omega); have h2 := HS.out j; have h3 := HY.out; omega
          have HN := Lib.hid hno
          clear hno
          go_wp2_with (go_at_call 73; refine (most_8 _).mono ?_; rintro e w' ⟨rfl, rfl⟩)
          go_ret2
          exact ⟨ret_pair (leftV_no HN.out).symm (leftB_no HN.out).symm, rfl⟩
      · have hz : y = 0 := by omega
        have hx0 : x * 2 ^ k = 0 := by
          have h3 := HY.out; rw [hz] at h3
          have : x = 0 := by
            rcases Int.mul_eq_zero.1 h3.symm with e | e
            · exact e
            · exact absurd e (Int.ne_of_gt (Int.pow_pos (by decide)))
          subst this; simp
        have HX := Lib.hid hx0
        subst hz
        clear hx0
        go_wp2
        go_ret2
        exact ⟨ret_pair (by have h := HX.out; rw [leftV_yes (by omega), h]) (by have h := HX.out; rw [leftB_yes (by omega)]), rfl⟩
    · obtain rfl : j = k := by omega
      go_wp2
      go_ret2
      exact ⟨ret_pair (by have h := HY.out; rw [leftV_yes (by omega), h]) (by have h := HY.out; rw [leftB_yes (by omega)]), rfl⟩
theorem refleft_8_neg (x n : Int) (w : World) (hx : 0 ≤ x) (hx' : x < 256) (hn : n < 0) (hn' : -9223372036854775808 ≤ n) :
    Calls Try.prog 41 #[.int .i64 8, .int .u64 x, .int .i64 n] w fun e w' => e = .returned (.tuple #[.int .u64 0, .bool false]) ∧ w = w' := by
  go_enter Try.func41, Try.ntmps41
  go_wp2
  go_ret2
  exact ⟨rfl, rfl⟩

theorem refleft_16 (x n : Int) (w : World) (hx : 0 ≤ x) (hx' : x < 65536) (hn : 0 ≤ n) (hn' : n ≤ 9223372036854775807) :
    Calls Try.prog 41 #[.int .i64 16, .int .u64 x, .int .i64 n] w fun e w' => e = .returned (.tuple #[.int .u64 (leftV 65536 x n.toNat), .bool (leftB 65536 x n.toNat)]) ∧ w = w' := by
  obtain ⟨k, rfl⟩ := Int.eq_ofNat_of_zero_le hn
  rw [Int.toNat_natCast]
  have hg := fun i h => pow_grow x i k hx h
  have hs := fun i => pow_next x i
  have H0 : Hid (x * 2 ^ 0 = x) := Lib.hid (by simp)
  have HG := Lib.hid hg
  have HS := Lib.hid hs
  clear hg hs
  go_enter Try.func41, Try.ntmps41
  go_wp2
  go_loop [1, 8] (fun v i => ∃ j : Nat, j ≤ k ∧ i = .int .i64 j ∧ ∃ y : Int, Hid (y = x * 2 ^ j) ∧ v = .int .u64 y ∧ 0 ≤ y ∧ y < 65536) (fun _ i => k - (intOf i).toNat)
  case atStart => exact ⟨0, Nat.zero_le _, rfl, x, Lib.hid (H0.out).symm, rfl, hx, hx'⟩
  case round =>
    obtain ⟨j, hj, rfl, y, HY, rfl, hy, hy'⟩ := hrel
    by_cases hlt : j < k
    · by_cases h0 : 0 < y
      · by_cases hb : y < 32768
        · go_wp2_with (go_at_call 73; refine (most_16 _).mono ?_; rintro e w' ⟨rfl, rfl⟩)
          go_round
          case rel => exact ⟨j + 1, by omega, by go_num, y * 2, Lib.hid (by have := HS.out j; have := HY.out; omega), by go_num, by omega, by omega⟩
          case measure => simp [intOf]; omega
        · have hno : 65536 ≤ x * 2 ^ k := by have h1 := HG.out (j + 1) (by omega); have h2 := HS.out j; have h3 := HY.out; omega
          have HN := Lib.hid hno
          clear hno
          go_wp2_with (go_at_call 73; refine (most_16 _).mono ?_; rintro e w' ⟨rfl, rfl⟩)
          go_ret2
          exact ⟨ret_pair (leftV_no HN.out).symm (leftB_no HN.out).symm, rfl⟩
      · have hz : y = 0 := by omega
        have hx0 : x * 2 ^ k = 0 := by
          have h3 := HY.out; rw [hz] at h3
          have : x = 0 := by
            rcases Int.mul_eq_zero.1 h3.symm with e | e
            · exact e
            · exact absurd e (Int.ne_of_gt (Int.pow_pos (by decide)))
          subst this; simp
        have HX := Lib.hid hx0
        subst hz
        clear hx0
        go_wp2
        go_ret2
        exact ⟨ret_pair (by have h := HX.out; rw [leftV_yes (by omega), h]) (by have h := HX.out; rw [leftB_yes (by omega)]), rfl⟩
    · obtain rfl : j = k := by omega
      go_wp2
      go_ret2
      exact ⟨ret_pair (by have h := HY.out; rw [leftV_yes (by omega), h]) (by have h := HY.out; rw [leftB_yes (by omega)]), rfl⟩
theorem refleft_16_neg (x n : Int) (w : World) (hx : 0 ≤ x) (hx' : x < 65536) (hn : n < 0) (hn' : -9223372036854775808 ≤ n) :
    Calls Try.prog 41 #[.int .i64 16, .int .u64 x, .int .i64 n] w fun e w' => e = .returned (.tuple #[.int .u64 0, .bool false]) ∧ w = w' := by
  go_enter Try.func41, Try.ntmps41
  go_wp2
  go_ret2
  exact ⟨rfl, rfl⟩

theorem refleft_32 (x n : Int) (w : World) (hx : 0 ≤ x) (hx' : x < 4294967296) (hn : 0 ≤ n) (hn' : n ≤ 9223372036854775807) :
    Calls Try.prog 41 #[.int .i64 32, .int .u64 x, .int .i64 n] w fun e w' => e = .returned (.tuple #[.int .u64 (leftV 4294967296 x n.toNat), .bool (leftB 4294967296 x n.toNat)]) ∧ w = w' := by
  obtain ⟨k, rfl⟩ := Int.eq_ofNat_of_zero_le hn
  rw [Int.toNat_natCast]
  have hg := fun i h => pow_grow x i k hx h
  have hs := fun i => pow_next x i
  have H0 : Hid (x * 2 ^ 0 = x) := Lib.hid (by simp)
  have HG := Lib.hid hg
  have HS := Lib.hid hs
  clear hg hs
  go_enter Try.func41, Try.ntmps41
  go_wp2
  go_loop [1, 8] (fun v i => ∃ j : Nat, j ≤ k ∧ i = .int .i64 j ∧ ∃ y : Int, Hid (y = x * 2 ^ j) ∧ v = .int .u64 y ∧ 0 ≤ y ∧ y < 4294967296) (fun _ i => k - (intOf i).toNat)
  case atStart => exact ⟨0, Nat.zero_le _, rfl, x, Lib.hid (H0.out).symm, rfl, hx, hx'⟩
  case round =>
    obtain ⟨j, hj, rfl, y, HY, rfl, hy, hy'⟩ := hrel
    by_cases hlt : j < k
    · by_cases h0 : 0 < y
      · by_cases hb : y < 2147483648
        · go_wp2_with (go_at_call 73; refine (most_32 _).mono ?_; rintro e w' ⟨rfl, rfl⟩)
          go_round
          case rel => exact ⟨j + 1, by omega, by go_num, y * 2, Lib.hid (by have := HS.out j; have := HY.out; omega), by go_num, by omega, by omega⟩
          case measure => simp [intOf]; omega
        · have hno : 4294967296 ≤ x * 2 ^ k := by have h1 := HG.out (j + 1) (by omega); have h2 := HS.out j; have h3 := HY.out; omega
          have HN := Lib.hid hno
          clear hno
          go_wp2_with (go_at_call 73; refine (most_32 _).mono ?_; rintro e w' ⟨rfl, rfl⟩)
          go_ret2
          exact ⟨ret_pair (leftV_no HN.out).symm (leftB_no HN.out).symm, rfl⟩
      · have hz : y = 0 := by omega
        have hx0 : x * 2 ^ k = 0 := by
          have h3 := HY.out; rw [hz] at h3
          have : x = 0 := by
            rcases Int.mul_eq_zero.1 h3.symm with e | e
            · exact e
            · exact absurd e (Int.ne_of_gt (Int.pow_pos (by decide)))
          subst this; simp
        have HX := Lib.hid hx0
        subst hz
        clear hx0
        go_wp2
        go_ret2
        exact ⟨ret_pair (by have h := HX.out; rw [leftV_yes (by omega), h]) (by have h := HX.out; rw [leftB_yes (by omega)]), rfl⟩
    · obtain rfl : j = k := by omega
      go_wp2
      go_ret2
      exact ⟨ret_pair (by have h := HY.out; rw [leftV_yes (by omega), h]) (by have h := HY.out; rw [leftB_yes (by omega)]), rfl⟩
theorem refleft_32_neg (x n : Int) (w : World) (hx : 0 ≤ x) (hx' : x < 4294967296) (hn : n < 0) (hn' : -9223372036854775808 ≤ n) :
    Calls Try.prog 41 #[.int .i64 32, .int .u64 x, .int .i64 n] w fun e w' => e = .returned (.tuple #[.int .u64 0, .bool false]) ∧ w = w' := by
  go_enter Try.func41, Try.ntmps41
  go_wp2
  go_ret2
  exact ⟨rfl, rfl⟩

theorem refleft_64 (x n : Int) (w : World) (hx : 0 ≤ x) (hx' : x < 18446744073709551616) (hn : 0 ≤ n) (hn' : n ≤ 9223372036854775807) :
    Calls Try.prog 41 #[.int .i64 64, .int .u64 x, .int .i64 n] w fun e w' => e = .returned (.tuple #[.int .u64 (leftV 18446744073709551616 x n.toNat), .bool (leftB 18446744073709551616 x n.toNat)]) ∧ w = w' := by
  obtain ⟨k, rfl⟩ := Int.eq_ofNat_of_zero_le hn
  rw [Int.toNat_natCast]
  have hg := fun i h => pow_grow x i k hx h
  have hs := fun i => pow_next x i
  have H0 : Hid (x * 2 ^ 0 = x) := Lib.hid (by simp)
  have HG := Lib.hid hg
  have HS := Lib.hid hs
  clear hg hs
  go_enter Try.func41, Try.ntmps41
  go_wp2
  go_loop [1, 8] (fun v i => ∃ j : Nat, j ≤ k ∧ i = .int .i64 j ∧ ∃ y : Int, Hid (y = x * 2 ^ j) ∧ v = .int .u64 y ∧ 0 ≤ y ∧ y < 18446744073709551616) (fun _ i => k - (intOf i).toNat)
  case atStart => exact ⟨0, Nat.zero_le _, rfl, x, Lib.hid (H0.out).symm, rfl, hx, hx'⟩
  case round =>
    obtain ⟨j, hj, rfl, y, HY, rfl, hy, hy'⟩ := hrel
    by_cases hlt : j < k
    · by_cases h0 : 0 < y
      · by_cases hb : y < 9223372036854775808
        · go_wp2_with (go_at_call 73; refine (most_64 _).mono ?_; rintro e w' ⟨rfl, rfl⟩)
          go_round
          case rel => exact ⟨j + 1, by omega, by go_num, y * 2, Lib.hid (by have := HS.out j; have := HY.out; omega), by go_num, by omega, by omega⟩
          case measure => simp [intOf]; omega
        · have hno : 18446744073709551616 ≤ x * 2 ^ k := by have h1 := HG.out (j + 1) (by omega); have h2 := HS.out j; have h3 := HY.out; omega
          have HN := Lib.hid hno
          clear hno
          go_wp2_with (go_at_call 73; refine (most_64 _).mono ?_; rintro e w' ⟨rfl, rfl⟩)
          go_ret2
          exact ⟨ret_pair (leftV_no HN.out).symm (leftB_no HN.out).symm, rfl⟩
      · have hz : y = 0 := by omega
        have hx0 : x * 2 ^ k = 0 := by
          have h3 := HY.out; rw [hz] at h3
          have : x = 0 := by
            rcases Int.mul_eq_zero.1 h3.symm with e | e
            · exact e
            · exact absurd e (Int.ne_of_gt (Int.pow_pos (by decide)))
          subst this; simp
        have HX := Lib.hid hx0
        subst hz
        clear hx0
        go_wp2
        go_ret2
        exact ⟨ret_pair (by have h := HX.out; rw [leftV_yes (by omega), h]) (by have h := HX.out; rw [leftB_yes (by omega)]), rfl⟩
    · obtain rfl : j = k := by omega
      go_wp2
      go_ret2
      exact ⟨ret_pair (by have h := HY.out; rw [leftV_yes (by omega), h]) (by have h := HY.out; rw [leftB_yes (by omega)]), rfl⟩
theorem refleft_64_neg (x n : Int) (w : World) (hx : 0 ≤ x) (hx' : x < 18446744073709551616) (hn : n < 0) (hn' : -9223372036854775808 ≤ n) :
    Calls Try.prog 41 #[.int .i64 64, .int .u64 x, .int .i64 n] w fun e w' => e = .returned (.tuple #[.int .u64 0, .bool false]) ∧ w = w' := by
  go_enter Try.func41, Try.ntmps41
  go_wp2
  go_ret2
  exact ⟨rfl, rfl⟩

end Go.Proofs.Ytaekhijmnbeahaa
