/- Plain facts on numbers as bytes, and on what is taken of bytes. -/
import Derived.Test.YtammicdgpdnihaaOctetW
import Derived.Test.YtammicdgpdnihaaOctetR
namespace Go.Proofs.Ytammicdgpdnihaa
open Go.RowKit

theorem beN_snoc (v n : Nat) : beN v (n + 1) = beN (v / 256) n ++ [UInt8.ofNat (v % 256)] := by
  unfold beN
  rw [List.range_succ, List.map_append, List.map_singleton]
  congr 1
  · refine List.map_congr_left fun i hi => ?_
    have hi' : i < n := by simpa using hi
    have : 8 * (n + 1 - 1 - i) = 8 + 8 * (n - 1 - i) := by omega
    rw [this, Nat.pow_add, ← Nat.div_div_eq_div_mul]
  · simp

theorem beV_beN (n : Nat) : ∀ v, v < 2 ^ (8 * n) → beV (beN v n) = v := by
  induction n with
  | zero => intro v hv; have h0 : v = 0 := (by simpa using hv); rw [h0]; rfl
  | succ n ih =>
    intro v hv
    rw [beN_snoc, beV_snoc, ih (v / 256) (by
      rw [Nat.div_lt_iff_lt_mul (by decide)]
      rw [Nat.mul_add, Nat.pow_add] at hv
      exact hv)]
    simp
    omega

theorem hasN_mid (a b c : List UInt8) : hasN (a ++ b ++ c) a.length false (b.length : Int) = true := by
  unfold hasN
  rw [decide_eq_true (by simp only [List.length_append]; omega)]; rfl
theorem takenN_mid (a b c : List UInt8) : takenN (a ++ b ++ c) a.length false (b.length : Int) = b := by
  unfold takenN
  rw [hasN_mid, if_pos rfl, List.append_assoc]
  simp
theorem nextN_mid (a b c : List UInt8) : nextN (a ++ b ++ c) a.length false (b.length : Int) = a.length + b.length := by
  unfold nextN
  rw [hasN_mid, if_pos rfl]; simp
end Go.Proofs.Ytammicdgpdnihaa
