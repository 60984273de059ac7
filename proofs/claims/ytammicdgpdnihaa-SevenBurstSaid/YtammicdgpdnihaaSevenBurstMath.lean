/- Plain law of SevenBurst: bits turned within 32 in a row of a packed form, unpacked, are bits turned within 32 in a row, and some. -/
import Derived.Test.YtammicdgpdnihaaSevenMath
namespace Go.Proofs.Ytammicdgpdnihaa

theorem pack_testBit (l : List UInt8) (k r : Nat) (hk : k < (8 * l.length + 6) / 7) (hr : r < 7) : (valN (packN l)).testBit (8 * k + r) = (valN l).testBit (7 * k + r) := by
  rw [Nat.testBit_eq_decide_div_mod_eq, Nat.testBit_eq_decide_div_mod_eq, valN_bit (packN l) k r (by rw [packN_length]; omega) (by omega)]
  have hg : ((packN l).getD k 0).toNat = valN l / 128 ^ k % 128 + 128 := by
    unfold packN pk
    simp [List.getD, hk]
    omega
  rw [hg, pow128, Nat.pow_add, ← Nat.div_div_eq_div_mul]
  generalize valN l / 2 ^ (7 * k) = A
  have h : (A % 128 + 128) / 2 ^ r % 2 = A / 2 ^ r % 2 := by
    obtain rfl | rfl | rfl | rfl | rfl | rfl | rfl : r = 0 ∨ r = 1 ∨ r = 2 ∨ r = 3 ∨ r = 4 ∨ r = 5 ∨ r = 6 := by omega
    all_goals omega
  rw [h]

theorem turn_testBit (p t q : Nat) (h : (2 ^ p * t).testBit q = true) (ht : t < 4294967296) : p ≤ q ∧ q < p + 32 := by
  rw [Nat.mul_comm, ← Nat.shiftLeft_eq, Nat.testBit_shiftLeft] at h
  simp only [Bool.and_eq_true, decide_eq_true_eq] at h
  refine ⟨h.1, Nat.lt_of_not_le fun hq => ?_⟩
  have h2 : t < 2 ^ (q - p) := Nat.lt_of_lt_of_le (show t < 2 ^ 32 from ht) (Nat.pow_le_pow_right (by decide) (by omega))
  rw [Nat.testBit_lt_two_pow h2] at h
  exact absurd h.2 (by decide)

theorem bitsN_ne (V W m k : Nat) (h : k < m) : ((bitsN V m).getD k 0).toNat ≠ ((bitsN W m).getD k 0).toNat ↔ V.testBit k ≠ W.testBit k := by
  rw [bitsN_getD V m k h, bitsN_getD W m k h, Nat.testBit_eq_decide_div_mod_eq, Nat.testBit_eq_decide_div_mod_eq]
  rcases Nat.mod_two_eq_zero_or_one (V / 2 ^ k) with h1 | h1 <;> rcases Nat.mod_two_eq_zero_or_one (W / 2 ^ k) with h2 | h2 <;> simp [h1, h2]

theorem burst7 (l x y : List UInt8) (p t : Nat) (hy : y.length = (packN l).length) (hval : valN y = valN (packN l) ^^^ (2 ^ p * t)) (ht : t < 4294967296) (h0 : t ≠ 0) (hx : unpackN y = some x) :
    x.length = l.length ∧ (∃ i, i < 8 * l.length ∧ ((bitsN (valN x) (8 * l.length)).getD i 0).toNat ≠ ((bitsN (valN l) (8 * l.length)).getD i 0).toNat) ∧
    (∀ i j, i ≤ j → j < 8 * l.length → ((bitsN (valN x) (8 * l.length)).getD i 0).toNat ≠ ((bitsN (valN l) (8 * l.length)).getD i 0).toNat →
      ((bitsN (valN x) (8 * l.length)).getD j 0).toNat ≠ ((bitsN (valN l) (8 * l.length)).getD j 0).toNat → j < i + 32) := by
  have hlen : x.length = l.length := by
    rw [unpackN_length y x hx, hy, packN_length]; omega
  have hpx := pack_unpackN y x hx
  have key : ∀ i, i < 8 * l.length → ((bitsN (valN x) (8 * l.length)).getD i 0).toNat ≠ ((bitsN (valN l) (8 * l.length)).getD i 0).toNat → (2 ^ p * t).testBit (i + i / 7) = true := by
    intro i hi h
    rw [bitsN_ne _ _ _ _ hi] at h
    have e1 := pack_testBit x (i / 7) (i % 7) (by omega) (by omega)
    have e2 := pack_testBit l (i / 7) (i % 7) (by omega) (by omega)
    rw [show 7 * (i / 7) + i % 7 = i by omega, show 8 * (i / 7) + i % 7 = i + i / 7 by omega] at e1 e2
    rw [← e1, ← e2, hpx, hval, Nat.testBit_xor] at h
    cases hq : (2 ^ p * t).testBit (i + i / 7)
    · rw [hq] at h; simp at h
    · rfl
  refine ⟨hlen, ?_, ?_⟩
  · refine Classical.byContradiction fun hno => ?_
    have hall : ∀ i, i < 8 * l.length → (valN x).testBit i = (valN l).testBit i := by
      intro i hi
      refine Classical.byContradiction fun hc => hno ⟨i, hi, ?_⟩
      rw [bitsN_ne _ _ _ _ hi]; exact hc
    have hv : valN x = valN l := by
      refine Nat.eq_of_testBit_eq fun i => ?_
      by_cases hi : i < 8 * l.length
      · exact hall i hi
      · have h1 := valN_lt x
        have h2 := valN_lt l
        rw [hlen] at h1
        have hp : 2 ^ (8 * l.length) ≤ 2 ^ i := Nat.pow_le_pow_right (by decide) (by omega)
        rw [Nat.testBit_lt_two_pow (Nat.lt_of_lt_of_le h1 hp), Nat.testBit_lt_two_pow (Nat.lt_of_lt_of_le h2 hp)]
    have hxl : x = l := by rw [← valN_bytesOf x, ← valN_bytesOf l, hv, hlen]
    rw [← hpx, hxl] at hval
    have hz : 2 ^ p * t = 0 := by
      have h1 := congrArg (fun z => valN (packN l) ^^^ z) hval
      simp only [← Nat.xor_assoc, Nat.xor_self, Nat.zero_xor] at h1
      exact h1.symm
    rcases Nat.mul_eq_zero.1 hz with h | h
    · exact absurd h (Nat.pos_iff_ne_zero.1 (Nat.pow_pos (by decide)))
    · exact h0 h
  · intro i j hij hj h1 h2
    have b1 := turn_testBit p t _ (key i (by omega) h1) ht
    have b2 := turn_testBit p t _ (key j hj h2) ht
    omega
end Go.Proofs.Ytammicdgpdnihaa
