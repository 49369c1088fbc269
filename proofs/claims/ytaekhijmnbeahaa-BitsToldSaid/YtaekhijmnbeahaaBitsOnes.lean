/- Contracts of bits.Ones, Count and Left at each kind, and of the reference's. -/
import Derived.Test.YtaekhijmnbeahaaBitsAdd
import Derived.Test.YtaekhijmnbeahaaLogPlain
namespace Go.Proofs.Ytaekhijmnbeahaa
open Go.ChangeShapes Go.WideShapes Go.ChangeAt Go.RowKit
set_option linter.unusedVariables false

theorem ones_A8 (x : Nat) (w : World) (hx : x < 256) :
    Calls Try.prog 48 #[.int .u8 x] w fun e w' => e = .returned (.int .i64 (ones x)) ∧ w = w' := by
  have hl := ones_le x
  go_enter Try.func48, Try.ntmps48
  go_wp2
  go_loop [0, 3] (fun v i => ∃ y j : Nat, y < 256 ∧ v = .int .u8 y ∧ i = .int .i64 j ∧ j + ones y = ones x) (fun v _ => (intOf v).toNat)
  case atStart => exact ⟨x, 0, hx, rfl, rfl, by omega⟩
  case round =>
    obtain ⟨y, j, hy, rfl, rfl, hj⟩ := hrel
    have ha : bits .and .u8 (y : Int) 1 = ((y % 2 : Nat) : Int) := by rw [show (1 : Int) = ((1 : Nat) : Int) from rfl, and_u8 y 1 hy (by omega), Nat.and_one_is_mod]
    by_cases o : y % 2 = 1
    · have h1 : (bits .and .u8 (y : Int) 1 == 1) = true := by rw [ha, o]; rfl
      have hq := ones_odd (x := y) (by omega) o
      have hjb : j + 1 ≤ 64 := by omega
      have H := Lib.hid hj
      have HQ := Lib.hid hq
      clear ha hj hq o
      go_wp2
      go_round
      case rel => exact ⟨y / 2, j + 1, by omega, by go_num, by go_num, by have := H.out; have := HQ.out; omega⟩
      case measure => simp [intOf]; have : y ≠ 0 := by (intro e; subst e; have := HQ.out; simp [ones, onesF] at this)
                      omega
    · have h1 : (bits .and .u8 (y : Int) 1 == 1) = false := by rw [ha]; simp; omega
      have hq := ones_even (x := y) o
      have H := Lib.hid hj
      have HQ := Lib.hid hq
      clear ha hj hq o
      go_wp2
      go_ret
      exact ⟨ret_int (by have := H.out; have := HQ.out; omega), rfl⟩
theorem cnt_A8 (x : Nat) (w : World) (hx : x < 256) :
    Calls Try.prog 56 #[.int .u8 x] w fun e w' => e = .returned (.int .i64 (cnt x)) ∧ w = w' := by
  have hl := cnt_le x
  go_enter Try.func56, Try.ntmps56
  go_wp2
  go_loop [0, 3] (fun v i => ∃ y j : Nat, y < 256 ∧ v = .int .u8 y ∧ i = .int .i64 j ∧ j + cnt y = cnt x) (fun v _ => (intOf v).toNat)
  case atStart => exact ⟨x, 0, hx, rfl, rfl, by omega⟩
  case round =>
    obtain ⟨y, j, hy, rfl, rfl, hj⟩ := hrel
    by_cases o : 0 < y
    · have h1 : ((y : Int) != 0) = true := by simp; omega
      have ha : bits .and .u8 (y : Int) ((y : Int) - 1) = ((y &&& (y - 1) : Nat) : Int) := by rw [show (y : Int) - 1 = ((y - 1 : Nat) : Int) by omega, and_u8 y (y - 1) hy (by omega)]
      have hq := cnt_clear (x := y) o (by omega)
      have hc := clear_lt o
      have hjb : j + 1 ≤ 64 := by omega
      have H := Lib.hid hj
      have HQ := Lib.hid hq
      have HA := Lib.hid ha
      clear ha hj hq
      go_wp2
      go_round
      case rel => exact ⟨y &&& (y - 1), j + 1, by omega, val_int (by rw [← HA.out]), by go_num, by have := H.out; have := HQ.out; omega⟩
      case measure => simp only [intOf]; rw [HA.out]; omega
    · obtain rfl : y = 0 := by omega
      have hz := cnt_zero
      have H := Lib.hid hj
      have HQ := Lib.hid hz
      clear hj hz
      go_wp2
      go_ret
      exact ⟨ret_int (by have := H.out; have := HQ.out; omega), rfl⟩

theorem ones_A16 (x : Nat) (w : World) (hx : x < 65536) :
    Calls Try.prog 50 #[.int .u16 x] w fun e w' => e = .returned (.int .i64 (ones x)) ∧ w = w' := by
  have hl := ones_le x
  go_enter Try.func50, Try.ntmps50
  go_wp2
  go_loop [0, 3] (fun v i => ∃ y j : Nat, y < 65536 ∧ v = .int .u16 y ∧ i = .int .i64 j ∧ j + ones y = ones x) (fun v _ => (intOf v).toNat)
  case atStart => exact ⟨x, 0, hx, rfl, rfl, by omega⟩
  case round =>
    obtain ⟨y, j, hy, rfl, rfl, hj⟩ := hrel
    have ha : bits .and .u16 (y : Int) 1 = ((y % 2 : Nat) : Int) := by rw [show (1 : Int) = ((1 : Nat) : Int) from rfl, and_u16 y 1 hy (by omega), Nat.and_one_is_mod]
    by_cases o : y % 2 = 1
    · have h1 : (bits .and .u16 (y : Int) 1 == 1) = true := by rw [ha, o]; rfl
      have hq := ones_odd (x := y) (by omega) o
      have hjb : j + 1 ≤ 64 := by omega
      have H := Lib.hid hj
      have HQ := Lib.hid hq
      clear ha hj hq o
      go_wp2
      go_round
      case rel => exact ⟨y / 2, j + 1, by omega, by go_num, by go_num, by have := H.out; have := HQ.out; omega⟩
      case measure => simp [intOf]; have : y ≠ 0 := by (intro e; subst e; have := HQ.out; simp [ones, onesF] at this)
                      omega
    · have h1 : (bits .and .u16 (y : Int) 1 == 1) = false := by rw [ha]; simp; omega
      have hq := ones_even (x := y) o
      have H := Lib.hid hj
      have HQ := Lib.hid hq
      clear ha hj hq o
      go_wp2
      go_ret
      exact ⟨ret_int (by have := H.out; have := HQ.out; omega), rfl⟩
theorem cnt_A16 (x : Nat) (w : World) (hx : x < 65536) :
    Calls Try.prog 58 #[.int .u16 x] w fun e w' => e = .returned (.int .i64 (cnt x)) ∧ w = w' := by
  have hl := cnt_le x
  go_enter Try.func58, Try.ntmps58
  go_wp2
  go_loop [0, 3] (fun v i => ∃ y j : Nat, y < 65536 ∧ v = .int .u16 y ∧ i = .int .i64 j ∧ j + cnt y = cnt x) (fun v _ => (intOf v).toNat)
  case atStart => exact ⟨x, 0, hx, rfl, rfl, by omega⟩
  case round =>
    obtain ⟨y, j, hy, rfl, rfl, hj⟩ := hrel
    by_cases o : 0 < y
    · have h1 : ((y : Int) != 0) = true := by simp; omega
      have ha : bits .and .u16 (y : Int) ((y : Int) - 1) = ((y &&& (y - 1) : Nat) : Int) := by rw [show (y : Int) - 1 = ((y - 1 : Nat) : Int) by omega, and_u16 y (y - 1) hy (by omega)]
      have hq := cnt_clear (x := y) o (by omega)
      have hc := clear_lt o
      have hjb : j + 1 ≤ 64 := by omega
      have H := Lib.hid hj
      have HQ := Lib.hid hq
      have HA := Lib.hid ha
      clear ha hj hq
      go_wp2
      go_round
      case rel => exact ⟨y &&& (y - 1), j + 1, by omega, val_int (by rw [← HA.out]), by go_num, by have := H.out; have := HQ.out; omega⟩
      case measure => simp only [intOf]; rw [HA.out]; omega
    · obtain rfl : y = 0 := by omega
      have hz := cnt_zero
      have H := Lib.hid hj
      have HQ := Lib.hid hz
      clear hj hz
      go_wp2
      go_ret
      exact ⟨ret_int (by have := H.out; have := HQ.out; omega), rfl⟩

theorem ones_A32 (x : Nat) (w : World) (hx : x < 4294967296) :
    Calls Try.prog 51 #[.int .u32 x] w fun e w' => e = .returned (.int .i64 (ones x)) ∧ w = w' := by
  have hl := ones_le x
  go_enter Try.func51, Try.ntmps51
  go_wp2
  go_loop [0, 3] (fun v i => ∃ y j : Nat, y < 4294967296 ∧ v = .int .u32 y ∧ i = .int .i64 j ∧ j + ones y = ones x) (fun v _ => (intOf v).toNat)
  case atStart => exact ⟨x, 0, hx, rfl, rfl, by omega⟩
  case round =>
    obtain ⟨y, j, hy, rfl, rfl, hj⟩ := hrel
    have ha : bits .and .u32 (y : Int) 1 = ((y % 2 : Nat) : Int) := by rw [show (1 : Int) = ((1 : Nat) : Int) from rfl, and_u32 y 1 hy (by omega), Nat.and_one_is_mod]
    by_cases o : y % 2 = 1
    · have h1 : (bits .and .u32 (y : Int) 1 == 1) = true := by rw [ha, o]; rfl
      have hq := ones_odd (x := y) (by omega) o
      have hjb : j + 1 ≤ 64 := by omega
      have H := Lib.hid hj
      have HQ := Lib.hid hq
      clear ha hj hq o
      go_wp2
      go_round
      case rel => exact ⟨y / 2, j + 1, by omega, by go_num, by go_num, by have := H.out; have := HQ.out; omega⟩
      case measure => simp [intOf]; have : y ≠ 0 := by (intro e; subst e; have := HQ.out; simp [ones, onesF] at this)
                      omega
    · have h1 : (bits .and .u32 (y : Int) 1 == 1) = false := by rw [ha]; simp; omega
      have hq := ones_even (x := y) o
      have H := Lib.hid hj
      have HQ := Lib.hid hq
      clear ha hj hq o
      go_wp2
      go_ret
      exact ⟨ret_int (by have := H.out; have := HQ.out; omega), rfl⟩
theorem cnt_A32 (x : Nat) (w : World) (hx : x < 4294967296) :
    Calls Try.prog 59 #[.int .u32 x] w fun e w' => e = .returned (.int .i64 (cnt x)) ∧ w = w' := by
  have hl := cnt_le x
  go_enter Try.func59, Try.ntmps59
  go_wp2
  go_loop [0, 3] (fun v i => ∃ y j : Nat, y < 4294967296 ∧ v = .int .u32 y ∧ i = .int .i64 j ∧ j + cnt y = cnt x) (fun v _ => (intOf v).toNat)
  case atStart => exact ⟨x, 0, hx, rfl, rfl, by omega⟩
  case round =>
    obtain ⟨y, j, hy, rfl, rfl, hj⟩ := hrel
    by_cases o : 0 < y
    · have h1 : ((y : Int) != 0) = true := by simp; omega
      have ha : bits .and .u32 (y : Int) ((y : Int) - 1) = ((y &&& (y - 1) : Nat) : Int) := by rw [show (y : Int) - 1 = ((y - 1 : Nat) : Int) by omega, and_u32 y (y - 1) hy (by omega)]
      have hq := cnt_clear (x := y) o (by omega)
      have hc := clear_lt o
      have hjb : j + 1 ≤ 64 := by omega
      have H := Lib.hid hj
      have HQ := Lib.hid hq
      have HA := Lib.hid ha
      clear ha hj hq
      go_wp2
      go_round
      case rel => exact ⟨y &&& (y - 1), j + 1, by omega, val_int (by rw [← HA.out]), by go_num, by have := H.out; have := HQ.out; omega⟩
      case measure => simp only [intOf]; rw [HA.out]; omega
    · obtain rfl : y = 0 := by omega
      have hz := cnt_zero
      have H := Lib.hid hj
      have HQ := Lib.hid hz
      clear hj hz
      go_wp2
      go_ret
      exact ⟨ret_int (by have := H.out; have := HQ.out; omega), rfl⟩

theorem ones_A64 (x : Nat) (w : World) (hx : x < 18446744073709551616) :
    Calls Try.prog 52 #[.int .u64 x] w fun e w' => e = .returned (.int .i64 (ones x)) ∧ w = w' := by
  have hl := ones_le x
  go_enter Try.func52, Try.ntmps52
  go_wp2
  go_loop [0, 3] (fun v i => ∃ y j : Nat, y < 18446744073709551616 ∧ v = .int .u64 y ∧ i = .int .i64 j ∧ j + ones y = ones x) (fun v _ => (intOf v).toNat)
  case atStart => exact ⟨x, 0, hx, rfl, rfl, by omega⟩
  case round =>
    obtain ⟨y, j, hy, rfl, rfl, hj⟩ := hrel
    have ha : bits .and .u64 (y : Int) 1 = ((y % 2 : Nat) : Int) := by rw [show (1 : Int) = ((1 : Nat) : Int) from rfl, and_u64 y 1 hy (by omega), Nat.and_one_is_mod]
    by_cases o : y % 2 = 1
    · have h1 : (bits .and .u64 (y : Int) 1 == 1) = true := by rw [ha, o]; rfl
      have hq := ones_odd (x := y) (by omega) o
      have hjb : j + 1 ≤ 64 := by omega
      have H := Lib.hid hj
      have HQ := Lib.hid hq
      clear ha hj hq o
      go_wp2
      go_round
      case rel => exact ⟨y / 2, j + 1, by omega, by go_num, by go_num, by have := H.out; have := HQ.out; omega⟩
      case measure => simp [intOf]; have : y ≠ 0 := by (intro e; subst e; have := HQ.out; simp [ones, onesF] at this)
                      omega
    · have h1 : (bits .and .u64 (y : Int) 1 == 1) = false := by rw [ha]; simp; omega
      have hq := ones_even (x := y) o
      have H := Lib.hid hj
      have HQ := Lib.hid hq
      clear ha hj hq o
      go_wp2
      go_ret
      exact ⟨ret_int (by have := H.out; have := HQ.out; omega), rfl⟩
theorem cnt_A64 (x : Nat) (w : World) (hx : x < 18446744073709551616) :
    Calls Try.prog 60 #[.int .u64 x] w fun e w' => e = .returned (.int .i64 (cnt x)) ∧ w = w' := by
  have hl := cnt_le x
  go_enter Try.func60, Try.ntmps60
  go_wp2
  go_loop [0, 3] (fun v i => ∃ y j : Nat, y < 18446744073709551616 ∧ v = .int .u64 y ∧ i = .int .i64 j ∧ j + cnt y = cnt x) (fun v _ => (intOf v).toNat)
  case atStart => exact ⟨x, 0, hx, rfl, rfl, by omega⟩
  case round =>
    obtain ⟨y, j, hy, rfl, rfl, hj⟩ := hrel
    by_cases o : 0 < y
    · have h1 : ((y : Int) != 0) = true := by simp; omega
      have ha : bits .and .u64 (y : Int) ((y : Int) - 1) = ((y &&& (y - 1) : Nat) : Int) := by rw [show (y : Int) - 1 = ((y - 1 : Nat) : Int) by omega, and_u64 y (y - 1) hy (by omega)]
      have hq := cnt_clear (x := y) o (by omega)
      have hc := clear_lt o
      have hjb : j + 1 ≤ 64 := by omega
      have H := Lib.hid hj
      have HQ := Lib.hid hq
      have HA := Lib.hid ha
      clear ha hj hq
      go_wp2
      go_round
      case rel => exact ⟨y &&& (y - 1), j + 1, by omega, val_int (by rw [← HA.out]), by go_num, by have := H.out; have := HQ.out; omega⟩
      case measure => simp only [intOf]; rw [HA.out]; omega
    · obtain rfl : y = 0 := by omega
      have hz := cnt_zero
      have H := Lib.hid hj
      have HQ := Lib.hid hz
      clear hj hz
      go_wp2
      go_ret
      exact ⟨ret_int (by have := H.out; have := HQ.out; omega), rfl⟩

theorem ones_Au (x : Nat) (w : World) (hx : x < 18446744073709551616) :
    Calls Try.prog 53 #[.int .u64 x] w fun e w' => e = .returned (.int .i64 (ones x)) ∧ w = w' := by
  have hl := ones_le x
  go_enter Try.func53, Try.ntmps53
  go_wp2
  go_loop [0, 3] (fun v i => ∃ y j : Nat, y < 18446744073709551616 ∧ v = .int .u64 y ∧ i = .int .i64 j ∧ j + ones y = ones x) (fun v _ => (intOf v).toNat)
  case atStart => exact ⟨x, 0, hx, rfl, rfl, by omega⟩
  case round =>
    obtain ⟨y, j, hy, rfl, rfl, hj⟩ := hrel
    have ha : bits .and .u64 (y : Int) 1 = ((y % 2 : Nat) : Int) := by rw [show (1 : Int) = ((1 : Nat) : Int) from rfl, and_u64 y 1 hy (by omega), Nat.and_one_is_mod]
    by_cases o : y % 2 = 1
    · have h1 : (bits .and .u64 (y : Int) 1 == 1) = true := by rw [ha, o]; rfl
      have hq := ones_odd (x := y) (by omega) o
      have hjb : j + 1 ≤ 64 := by omega
      have H := Lib.hid hj
      have HQ := Lib.hid hq
      clear ha hj hq o
      go_wp2
      go_round
      case rel => exact ⟨y / 2, j + 1, by omega, by go_num, by go_num, by have := H.out; have := HQ.out; omega⟩
      case measure => simp [intOf]; have : y ≠ 0 := by (intro e; subst e; have := HQ.out; simp [ones, onesF] at this)
                      omega
    · have h1 : (bits .and .u64 (y : Int) 1 == 1) = false := by rw [ha]; simp; omega
      have hq := ones_even (x := y) o
      have H := Lib.hid hj
      have HQ := Lib.hid hq
      clear ha hj hq o
      go_wp2
      go_ret
      exact ⟨ret_int (by have := H.out; have := HQ.out; omega), rfl⟩
theorem cnt_Au (x : Nat) (w : World) (hx : x < 18446744073709551616) :
    Calls Try.prog 61 #[.int .u64 x] w fun e w' => e = .returned (.int .i64 (cnt x)) ∧ w = w' := by
  have hl := cnt_le x
  go_enter Try.func61, Try.ntmps61
  go_wp2
  go_loop [0, 3] (fun v i => ∃ y j : Nat, y < 18446744073709551616 ∧ v = .int .u64 y ∧ i = .int .i64 j ∧ j + cnt y = cnt x) (fun v _ => (intOf v).toNat)
  case atStart => exact ⟨x, 0, hx, rfl, rfl, by omega⟩
  case round =>
    obtain ⟨y, j, hy, rfl, rfl, hj⟩ := hrel
    by_cases o : 0 < y
    · have h1 : ((y : Int) != 0) = true := by simp; omega
      have ha : bits .and .u64 (y : Int) ((y : Int) - 1) = ((y &&& (y - 1) : Nat) : Int) := by rw [show (y : Int) - 1 = ((y - 1 : Nat) : Int) by omega, and_u64 y (y - 1) hy (by omega)]
      have hq := cnt_clear (x := y) o (by omega)
      have hc := clear_lt o
      have hjb : j + 1 ≤ 64 := by omega
      have H := Lib.hid hj
      have HQ := Lib.hid hq
      have HA := Lib.hid ha
      clear ha hj hq
      go_wp2
      go_round
      case rel => exact ⟨y &&& (y - 1), j + 1, by omega, val_int (by rw [← HA.out]), by go_num, by have := H.out; have := HQ.out; omega⟩
      case measure => simp only [intOf]; rw [HA.out]; omega
    · obtain rfl : y = 0 := by omega
      have hz := cnt_zero
      have H := Lib.hid hj
      have HQ := Lib.hid hz
      clear hj hz
      go_wp2
      go_ret
      exact ⟨ret_int (by have := H.out; have := HQ.out; omega), rfl⟩

theorem ones_Ao (x : Nat) (w : World) (hx : x < 65536) :
    Calls Try.prog 54 #[.int .u16 x] w fun e w' => e = .returned (.int .i64 (ones x)) ∧ w = w' := by
  have hl := ones_le x
  go_enter Try.func54, Try.ntmps54
  go_wp2
  go_loop [0, 3] (fun v i => ∃ y j : Nat, y < 65536 ∧ v = .int .u16 y ∧ i = .int .i64 j ∧ j + ones y = ones x) (fun v _ => (intOf v).toNat)
  case atStart => exact ⟨x, 0, hx, rfl, rfl, by omega⟩
  case round =>
    obtain ⟨y, j, hy, rfl, rfl, hj⟩ := hrel
    have ha : bits .and .u16 (y : Int) 1 = ((y % 2 : Nat) : Int) := by rw [show (1 : Int) = ((1 : Nat) : Int) from rfl, and_u16 y 1 hy (by omega), Nat.and_one_is_mod]
    by_cases o : y % 2 = 1
    · have h1 : (bits .and .u16 (y : Int) 1 == 1) = true := by rw [ha, o]; rfl
      have hq := ones_odd (x := y) (by omega) o
      have hjb : j + 1 ≤ 64 := by omega
      have H := Lib.hid hj
      have HQ := Lib.hid hq
      clear ha hj hq o
      go_wp2
      go_round
      case rel => exact ⟨y / 2, j + 1, by omega, by go_num, by go_num, by have := H.out; have := HQ.out; omega⟩
      case measure => simp [intOf]; have : y ≠ 0 := by (intro e; subst e; have := HQ.out; simp [ones, onesF] at this)
                      omega
    · have h1 : (bits .and .u16 (y : Int) 1 == 1) = false := by rw [ha]; simp; omega
      have hq := ones_even (x := y) o
      have H := Lib.hid hj
      have HQ := Lib.hid hq
      clear ha hj hq o
      go_wp2
      go_ret
      exact ⟨ret_int (by have := H.out; have := HQ.out; omega), rfl⟩
theorem cnt_Ao (x : Nat) (w : World) (hx : x < 65536) :
    Calls Try.prog 62 #[.int .u16 x] w fun e w' => e = .returned (.int .i64 (cnt x)) ∧ w = w' := by
  have hl := cnt_le x
  go_enter Try.func62, Try.ntmps62
  go_wp2
  go_loop [0, 3] (fun v i => ∃ y j : Nat, y < 65536 ∧ v = .int .u16 y ∧ i = .int .i64 j ∧ j + cnt y = cnt x) (fun v _ => (intOf v).toNat)
  case atStart => exact ⟨x, 0, hx, rfl, rfl, by omega⟩
  case round =>
    obtain ⟨y, j, hy, rfl, rfl, hj⟩ := hrel
    by_cases o : 0 < y
    · have h1 : ((y : Int) != 0) = true := by simp; omega
      have ha : bits .and .u16 (y : Int) ((y : Int) - 1) = ((y &&& (y - 1) : Nat) : Int) := by rw [show (y : Int) - 1 = ((y - 1 : Nat) : Int) by omega, and_u16 y (y - 1) hy (by omega)]
      have hq := cnt_clear (x := y) o (by omega)
      have hc := clear_lt o
      have hjb : j + 1 ≤ 64 := by omega
      have H := Lib.hid hj
      have HQ := Lib.hid hq
      have HA := Lib.hid ha
      clear ha hj hq
      go_wp2
      go_round
      case rel => exact ⟨y &&& (y - 1), j + 1, by omega, val_int (by rw [← HA.out]), by go_num, by have := H.out; have := HQ.out; omega⟩
      case measure => simp only [intOf]; rw [HA.out]; omega
    · obtain rfl : y = 0 := by omega
      have hz := cnt_zero
      have H := Lib.hid hj
      have HQ := Lib.hid hz
      clear hj hz
      go_wp2
      go_ret
      exact ⟨ret_int (by have := H.out; have := HQ.out; omega), rfl⟩

theorem ones_As (x : Nat) (w : World) (hx : x < 256) :
    Calls Try.prog 55 #[.int .u8 x] w fun e w' => e = .returned (.int .i64 (ones x)) ∧ w = w' := by
  have hl := ones_le x
  go_enter Try.func55, Try.ntmps55
  go_wp2
  go_loop [0, 3] (fun v i => ∃ y j : Nat, y < 256 ∧ v = .int .u8 y ∧ i = .int .i64 j ∧ j + ones y = ones x) (fun v _ => (intOf v).toNat)
  case atStart => exact ⟨x, 0, hx, rfl, rfl, by omega⟩
  case round =>
    obtain ⟨y, j, hy, rfl, rfl, hj⟩ := hrel
    have ha : bits .and .u8 (y : Int) 1 = ((y % 2 : Nat) : Int) := by rw [show (1 : Int) = ((1 : Nat) : Int) from rfl, and_u8 y 1 hy (by omega), Nat.and_one_is_mod]
    by_cases o : y % 2 = 1
    · have h1 : (bits .and .u8 (y : Int) 1 == 1) = true := by rw [ha, o]; rfl
      have hq := ones_odd (x := y) (by omega) o
      have hjb : j + 1 ≤ 64 := by omega
      have H := Lib.hid hj
      have HQ := Lib.hid hq
      clear ha hj hq o
      go_wp2
      go_round
      case rel => exact ⟨y / 2, j + 1, by omega, by go_num, by go_num, by have := H.out; have := HQ.out; omega⟩
      case measure => simp [intOf]; have : y ≠ 0 := by (intro e; subst e; have := HQ.out; simp [ones, onesF] at this)
                      omega
    · have h1 : (bits .and .u8 (y : Int) 1 == 1) = false := by rw [ha]; simp; omega
      have hq := ones_even (x := y) o
      have H := Lib.hid hj
      have HQ := Lib.hid hq
      clear ha hj hq o
      go_wp2
      go_ret
      exact ⟨ret_int (by have := H.out; have := HQ.out; omega), rfl⟩
theorem cnt_As (x : Nat) (w : World) (hx : x < 256) :
    Calls Try.prog 63 #[.int .u8 x] w fun e w' => e = .returned (.int .i64 (cnt x)) ∧ w = w' := by
  have hl := cnt_le x
  go_enter Try.func63, Try.ntmps63
  go_wp2
  go_loop [0, 3] (fun v i => ∃ y j : Nat, y < 256 ∧ v = .int .u8 y ∧ i = .int .i64 j ∧ j + cnt y = cnt x) (fun v _ => (intOf v).toNat)
  case atStart => exact ⟨x, 0, hx, rfl, rfl, by omega⟩
  case round =>
    obtain ⟨y, j, hy, rfl, rfl, hj⟩ := hrel
    by_cases o : 0 < y
    · have h1 : ((y : Int) != 0) = true := by simp; omega
      have ha : bits .and .u8 (y : Int) ((y : Int) - 1) = ((y &&& (y - 1) : Nat) : Int) := by rw [show (y : Int) - 1 = ((y - 1 : Nat) : Int) by omega, and_u8 y (y - 1) hy (by omega)]
      have hq := cnt_clear (x := y) o (by omega)
      have hc := clear_lt o
      have hjb : j + 1 ≤ 64 := by omega
      have H := Lib.hid hj
      have HQ := Lib.hid hq
      have HA := Lib.hid ha
      clear ha hj hq
      go_wp2
      go_round
      case rel => exact ⟨y &&& (y - 1), j + 1, by omega, val_int (by rw [← HA.out]), by go_num, by have := H.out; have := HQ.out; omega⟩
      case measure => simp only [intOf]; rw [HA.out]; omega
    · obtain rfl : y = 0 := by omega
      have hz := cnt_zero
      have H := Lib.hid hj
      have HQ := Lib.hid hz
      clear hj hz
      go_wp2
      go_ret
      exact ⟨ret_int (by have := H.out; have := HQ.out; omega), rfl⟩

theorem refones (x : Nat) (w : World) (hx : x < 18446744073709551616) :
    Calls Try.prog 49 #[.int .u64 x] w fun e w' => e = .returned (.int .i64 (ones x)) ∧ w = w' := by
  have hl := ones_le x
  go_enter Try.func49, Try.ntmps49
  go_wp2
  go_loop [0, 3] (fun v i => ∃ y j : Nat, y < 18446744073709551616 ∧ v = .int .u64 y ∧ i = .int .i64 j ∧ j + ones y = ones x) (fun v _ => (intOf v).toNat)
  case atStart => exact ⟨x, 0, hx, rfl, rfl, by omega⟩
  case round =>
    obtain ⟨y, j, hy, rfl, rfl, hj⟩ := hrel
    by_cases o : y % 2 = 1
    · have h1 : ((y : Int) % 2 == 1) = true := by simp; omega
      have hq := ones_odd (x := y) (by omega) o
      have hjb : j + 1 ≤ 64 := by omega
      have H := Lib.hid hj
      have HQ := Lib.hid hq
      clear hj hq o
      go_wp2
      go_round
      case rel => exact ⟨y / 2, j + 1, by omega, by go_num, by go_num, by have := H.out; have := HQ.out; omega⟩
      case measure => simp [intOf]; have : y ≠ 0 := by (intro e; subst e; have := HQ.out; simp [ones, onesF] at this)
                      omega
    · have h1 : ((y : Int) % 2 == 1) = false := by simp; omega
      have hq := ones_even (x := y) o
      have H := Lib.hid hj
      have HQ := Lib.hid hq
      clear hj hq o
      go_wp2
      go_ret
      exact ⟨ret_int (by have := H.out; have := HQ.out; omega), rfl⟩
theorem refcnt (x : Nat) (w : World) (hx : x < 18446744073709551616) :
    Calls Try.prog 57 #[.int .u64 x] w fun e w' => e = .returned (.int .i64 (cnt x)) ∧ w = w' := by
  have hl := cnt_le x
  go_enter Try.func57, Try.ntmps57
  go_wp2
  go_loop [0, 3] (fun v i => ∃ y j : Nat, y < 18446744073709551616 ∧ v = .int .u64 y ∧ i = .int .i64 j ∧ j + cnt y = cnt x) (fun v _ => (intOf v).toNat)
  case atStart => exact ⟨x, 0, hx, rfl, rfl, by omega⟩
  case round =>
    obtain ⟨y, j, hy, rfl, rfl, hj⟩ := hrel
    by_cases o : 0 < y
    · have hq := cnt_half (x := y) (by omega)
      have hjb : j + y % 2 ≤ 64 := by omega
      have H := Lib.hid hj
      have HQ := Lib.hid hq
      clear hj hq
      go_wp2
      go_round
      case rel => exact ⟨y / 2, j + y % 2, by omega, by go_num, by go_num, by have := H.out; have := HQ.out; omega⟩
      case measure => simp [intOf]; omega
    · obtain rfl : y = 0 := by omega
      have hz := cnt_zero
      have H := Lib.hid hj
      have HQ := Lib.hid hz
      clear hj hz
      go_wp2
      go_ret
      exact ⟨ret_int (by have := H.out; have := HQ.out; omega), rfl⟩

end Go.Proofs.Ytaekhijmnbeahaa
