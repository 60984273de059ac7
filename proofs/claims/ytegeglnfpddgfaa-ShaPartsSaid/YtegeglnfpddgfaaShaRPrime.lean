/- The walks of the document's prime, nth, pow. -/
import Derived.Test.YtegeglnfpddgfaaShaRHash
import Derived.Test.YtegeglnfpddgfaaShaRootMath
import Derived.WalkMore
namespace Go.Proofs.Ytegeglnfpddgfaa
open Go.RowKit

set_option maxRecDepth 100000 in
theorem prime_any (n : Nat) (w : World) (hn : n ≤ 1000) :
    Calls Try.prog 35 #[.int .i64 (n : Int)] w fun e w' => e = .returned (.bool (primeN n)) ∧ w = w' := by
  go_enter Try.func35, Try.ntmps35
  go_wp2
  go_loop [3] (fun x => ∃ d f : Nat, x = .int .i64 (d : Int) ∧ primeFrom n f d = primeN n ∧ n + 2 ≤ f + d ∧ d ≤ n + 2 ∧ 2 ≤ d) (fun x => n + 3 - (intOf x).toNat)
  case atStart => exact ⟨2, n, rfl, rfl, by omega, by omega, by omega⟩
  case round =>
    obtain ⟨d, f, rfl, hp, hf, hd, hd2⟩ := hrel
    have HP := Lib.hid hp
    clear hp
    obtain ⟨q, hq⟩ : ∃ q, q = d * d := ⟨_, rfl⟩
    have hqi : (d : Int) * (d : Int) = (q : Int) := by rw [hq]; simp
    have hql : q ≤ 1004004 := by rw [hq]; exact Nat.le_trans (Nat.mul_le_mul hd hd) (Nat.le_trans (Nat.mul_le_mul (show n + 2 ≤ 1002 by omega) (show n + 2 ≤ 1002 by omega)) (by omega))
    have hdq : d ≤ q := by rw [hq]; exact Nat.le_mul_of_pos_left d (by omega)
    have HQ := Lib.hid hq
    clear hq
    by_cases hlt : q ≤ n
    · obtain ⟨r, hr⟩ : ∃ r, r = n % d := ⟨_, rfl⟩
      have hri : (n : Int) % (d : Int) = (r : Int) := by rw [hr]; simp
      have hrt : (n : Int).tmod (d : Int) = (r : Int) := by rw [hr]; rfl
      have hd0 : (d : Int) ≠ 0 := by omega
      have HR := Lib.hid hr
      clear hr
      cases f with
      | zero => exfalso; have := HQ.out; omega
      | succ f =>
        have HS : Hid (primeN n = if r = 0 then false else primeFrom n f (d + 1)) := by
          show _ = _
          rw [← HP.out, primeFrom, if_pos (by rw [← HQ.out]; exact hlt), ← HR.out]
        by_cases hr0 : r = 0
        · have hz : ((r : Int) == 0) = true := by rw [beq_iff_eq]; omega
          go_wp2
          go_ret
          exact ⟨ret_bool (by rw [HS.out, if_pos hr0]), rfl⟩
        · have hz : ((r : Int) == 0) = false := by rw [beq_eq_false_iff_ne]; omega
          go_wp2
          go_round
          case rel => exact ⟨d + 1, f, by go_num, by rw [HS.out, if_neg hr0], by omega, by omega, by omega⟩
          case measure => simp [intOf]; omega
    · have HS : Hid (primeN n = decide (1 < n)) := by
        show _ = _
        rw [← HP.out]
        cases f with
        | zero => rfl
        | succ f => rw [primeFrom, if_neg (by rw [← HQ.out]; exact hlt)]
      go_wp2
      go_ret
      exact ⟨ret_bool (by rw [HS.out]; simp; omega), rfl⟩

set_option maxRecDepth 100000 in
theorem nth_any (i : Nat) (w : World) (hi : i ≤ 63) (hp : nthN i ≠ 0) :
    Calls Try.prog 23 #[.int .i64 (i : Int)] w fun e w' => e = .returned (.int .i64 ((nthN i : Nat) : Int)) ∧ w = w' := by
  obtain ⟨P, hP⟩ : ∃ P, P = nthN i := ⟨_, rfl⟩
  rw [← hP] at hp ⊢
  have HP := Lib.hid hP
  clear hP
  go_enter Try.func23, Try.ntmps23
  go_wp2
  go_loop [0, 3, 4, 5] (fun x y _ _ => ∃ m n f : Nat, x = .int .i64 (m : Int) ∧ y = .int .i64 (n : Int) ∧ nthFrom f n m = P ∧ n + f = 402 ∧ m ≤ 63) (fun _ y _ _ => 402 - (intOf y).toNat)
  case atStart => exact ⟨i, 2, 400, rfl, rfl, HP.out.symm, by omega, by omega⟩
  case round =>
    obtain ⟨m, n, f, rfl, rfl, hn, hf, hm⟩ := hrel
    have HN := Lib.hid hn
    clear hn
    cases f with
    | zero => exfalso; have h := HN.out; rw [nthFrom] at h; exact hp h.symm
    | succ f =>
      go_wp2_with fail
      refine (prime_any n _ (by omega)).mono ?_
      rintro e w1 ⟨rfl, rfl⟩
      have HS : Hid ((if primeN n = true then (if m = 0 then n else nthFrom f (n + 1) (m - 1)) else nthFrom f (n + 1) m) = P) := by
        show _ = _
        rw [← HN.out, nthFrom]
      cases hpr : primeN n with
      | false =>
        rw [hpr] at HS
        have HS2 : Hid (nthFrom f (n + 1) m = P) := HS.out
        clear HS
        go_wp2
        go_round
        case rel => exact ⟨m, n + 1, f, rfl, by go_num, HS2.out, by omega, hm⟩
        case measure => simp [intOf]; omega
      | true =>
        rw [hpr] at HS
        have HS2 : Hid ((if m = 0 then n else nthFrom f (n + 1) (m - 1)) = P) := HS.out
        clear HS
        by_cases hm0 : m = 0
        · have hz : ((m : Int) == 0) = true := by rw [beq_iff_eq]; omega
          have HE : Hid (n = P) := by show _ = _; rw [← HS2.out, if_pos hm0]
          clear HS2 hm0
          go_wp2
          go_ret
          exact ⟨ret_int (by rw [HE.out]), rfl⟩
        · have hz : ((m : Int) == 0) = false := by rw [beq_eq_false_iff_ne]; omega
          have HE : Hid (nthFrom f (n + 1) (m - 1) = P) := by show _ = _; rw [← HS2.out, if_neg hm0]
          clear HS2
          go_wp2
          go_round
          case rel => exact ⟨m - 1, n + 1, f, by rw [show ((m - 1 : Nat) : Int) = (m : Int) - 1 by omega], by go_num, HE.out, by omega, by omega⟩
          case measure => simp [intOf]; omega

set_option maxRecDepth 100000 in
theorem pow_any (n : Nat) (w : World) (hn : n ≤ 36) :
    Calls Try.prog 31 #[.int .i64 (n : Int)] w fun e w' => e = .returned (.int .u64 ((2 ^ n : Nat) : Int)) ∧ w = w' := by
  go_enter Try.func31, Try.ntmps31
  go_wp2
  go_loop [3, 4] (fun x i => ∃ k : Nat, k ≤ n ∧ i = .int .i64 (k : Int) ∧ x = .int .u64 ((2 ^ k : Nat) : Int)) (fun _ i => n - (intOf i).toNat)
  case atStart => exact ⟨0, Nat.zero_le _, rfl, rfl⟩
  case round =>
    obtain ⟨k, hk, rfl, rfl⟩ := hrel
    by_cases hlt : k < n
    · have hV : 2 ^ k ≤ 2 ^ 36 := Nat.pow_le_pow_right (by omega) (by omega)
      have hV2 : 2 ^ k ≤ 68719476736 := hV
      have HS : Hid (2 ^ (k + 1) = 2 ^ k * 2) := by show _ = _; rw [Nat.pow_succ]
      clear hV
      generalize 2 ^ k = V at *
      go_wp2
      go_round
      case rel => exact ⟨k + 1, by omega, by go_num, by rw [HS.out]; simp⟩
      case measure => simp [intOf]; omega
    · obtain rfl : k = n := by omega
      go_wp2
      go_ret
      exact ⟨rfl, rfl⟩
end Go.Proofs.Ytegeglnfpddgfaa
