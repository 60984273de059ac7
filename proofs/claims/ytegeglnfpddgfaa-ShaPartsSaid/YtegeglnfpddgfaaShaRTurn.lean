/- The walks of the document's turn and move. -/
import Derived.Test.YtegeglnfpddgfaaShaOf
namespace Go.Proofs.Ytegeglnfpddgfaa
open Go.RowKit

set_option maxRecDepth 100000 in
theorem refTurn_any (v n : Nat) (w : World) (hv : v < 4294967296) (hn : n ≤ 31) :
    Calls Try.prog 29 #[.int .u32 (v : Int), .int .i64 (n : Int)] w fun e w' => e = .returned (.int .u32 ((rotN v n : Nat) : Int)) ∧ w = w' := by
  have HV := Lib.hid hv
  go_enter Try.func29, Try.ntmps29
  go_wp2
  go_loop [0, 5, 6] (fun x i _ => ∃ k : Nat, k ≤ n ∧ i = .int .i64 (k : Int) ∧ x = .int .u32 ((rotN v k : Nat) : Int)) (fun _ i _ => n - (intOf i).toNat)
  case atStart => exact ⟨0, Nat.zero_le _, rfl, by rw [rotN_zero]⟩
  case round =>
    obtain ⟨k, hk, rfl, rfl⟩ := hrel
    by_cases hlt : k < n
    · have hV := rotN_lt HV.out (show k ≤ 32 by omega)
      have HS := Lib.hid (rotN_succ v k (by omega))
      generalize rotN v k = V at *
      go_wp2
      go_round
      case rel => exact ⟨k + 1, by omega, by go_num, by rw [← HS.out]; unfold rot1; simp⟩
      case measure => simp [intOf]; omega
    · obtain rfl : k = n := by omega
      go_wp2
      go_ret
      exact ⟨rfl, rfl⟩

set_option maxRecDepth 100000 in
theorem refMove_any (v n : Nat) (w : World) (hv : v < 4294967296) (hn : n ≤ 31) :
    Calls Try.prog 37 #[.int .u32 (v : Int), .int .i64 (n : Int)] w fun e w' => e = .returned (.int .u32 ((v / 2 ^ n : Nat) : Int)) ∧ w = w' := by
  have HV := Lib.hid hv
  go_enter Try.func37, Try.ntmps37
  go_wp2
  go_loop [0, 5] (fun x i => ∃ k : Nat, k ≤ n ∧ i = .int .i64 (k : Int) ∧ x = .int .u32 ((v / 2 ^ k : Nat) : Int)) (fun _ i => n - (intOf i).toNat)
  case atStart => exact ⟨0, Nat.zero_le _, rfl, by simp⟩
  case round =>
    obtain ⟨k, hk, rfl, rfl⟩ := hrel
    by_cases hlt : k < n
    · have hV : v / 2 ^ k < 4294967296 := Nat.lt_of_le_of_lt (Nat.div_le_self _ _) HV.out
      have HS : Hid (v / 2 ^ (k + 1) = v / 2 ^ k / 2) := by show _ = _; rw [Nat.pow_succ, Nat.div_div_eq_div_mul]
      generalize v / 2 ^ k = V at *
      go_wp2
      go_round
      case rel => exact ⟨k + 1, by omega, by go_num, by rw [HS.out]; simp⟩
      case measure => simp [intOf]; omega
    · obtain rfl : k = n := by omega
      go_wp2
      go_ret
      exact ⟨rfl, rfl⟩
end Go.Proofs.Ytegeglnfpddgfaa
