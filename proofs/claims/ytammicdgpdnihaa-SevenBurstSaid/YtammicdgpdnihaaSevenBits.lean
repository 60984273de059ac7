/- Walks of layer 6: Whole, Len, and the reference's Bits. -/
import Derived.Test.YtammicdgpdnihaaBase
import Derived.Test.YtammicdgpdnihaaSevenMath
namespace Go.Proofs.Ytammicdgpdnihaa
open Go.RowKit

theorem SevenLen_any (x : Int) (w : World) (h1 : -9223372036854775808 ≤ x) (h2 : x ≤ 9223372036854775807) :
    Calls Try.prog 30 #[.int .i64 x] w fun e w' => e = .returned (.int .i64 (if x < 0 ∨ 1048576 < x then 0 else (8 * x + 6) / 7)) ∧ w = w' := by
  by_cases ha : x < 0
  · rw [if_pos (.inl ha)]
    go_enter Try.func30, Try.ntmps30
    go_wp2
    go_ret
    exact ⟨rfl, rfl⟩
  by_cases hb : 1048576 < x
  · rw [if_pos (.inr hb)]
    go_enter Try.func30, Try.ntmps30
    go_wp2
    go_ret
    exact ⟨rfl, rfl⟩
  rw [if_neg (by omega)]
  go_enter Try.func30, Try.ntmps30
  go_wp2
  go_ret
  exact ⟨rfl, rfl⟩

theorem whole_take_succ (l : List UInt8) (k : Nat) (h : k < l.length) : whole (l.take (k + 1)) = (whole (l.take k) && decide (128 ≤ (l.getD k 0).toNat)) := by
  have : l.take (k + 1) = l.take k ++ [l.getD k 0] := by
    rw [List.take_succ_eq_append_getElem h]; simp [List.getD, h]
  rw [this]; simp [whole]

theorem whole_false (l : List UInt8) (k : Nat) (h : k < l.length) (hc : (l.getD k 0).toNat < 128) : whole l = false := by
  cases hw : whole l with
  | false => rfl
  | true =>
    have := List.all_eq_true.1 hw (l.getD k 0) (by simp [List.getD, h])
    exact absurd (of_decide_eq_true this) (by omega)

set_option maxRecDepth 100000 in
set_option maxHeartbeats 400000 in
theorem Whole_any (a : Option Addr) (l : List UInt8) (n cap : Nat) (w : World) (hn : n = l.length) (hb : Bs w a cap l) :
    Calls Try.prog 26 #[.slice a n cap] w fun e w' => e = .returned (.bool (whole l)) ∧ w = w' := by
  have hl := hb.fits hn
  have HN := Lib.hid hn
  have HB := Lib.hid hb
  clear hb hn
  go_enter Try.func26, Try.ntmps26
  go_wp2
  go_loop [6] (fun i => ∃ k : Nat, k ≤ n ∧ i = .int .i64 k ∧ Hid (whole (l.take k) = true)) (fun i => n - (intOf i).toNat)
  case atStart => exact ⟨0, Nat.zero_le _, rfl, rfl⟩
  case round =>
    obtain ⟨k, hk, rfl, hw⟩ := hrel
    by_cases hlt : k < n
    · obtain ⟨b, off, rfl, hcell, hbs⟩ := HB.out.at (k := k) (by have h1 := HN.out; omega)
      have HT := Lib.hid (whole_take_succ l k (by have h1 := HN.out; omega))
      have HF := Lib.hid (whole_false l k (by have h1 := HN.out; omega))
      have hc := (l.getD k 0).toNat_lt
      generalize hcd : (l.getD k 0).toNat = c at *
      have HCD := Lib.hid hcd
      clear hcd
      by_cases hlow : c < 128
      · go_wp2
        go_ret
        exact ⟨ret_bool (HF.out (by have := HCD.out; omega)).symm, rfl⟩
      · go_wp2
        go_round
        case rel => exact ⟨k + 1, by omega, by go_num, by have h1 := HT.out; rw [hw.out] at h1; exact h1.trans (by simp; omega)⟩
        case measure => simp [intOf]; omega
    · go_wp2
      go_ret
      exact ⟨ret_bool (by have h1 := hw.out; rw [List.take_of_length_le (by have h1 := HN.out; omega)] at h1; exact h1.symm), rfl⟩

set_option maxRecDepth 100000 in
set_option maxHeartbeats 400000 in
theorem Bits_any (a : Option Addr) (l : List UInt8) (n cap : Nat) (w : World) (hn : n = l.length) (hmax : n ≤ 1000000) (hb : Bs w a cap l) :
    Calls Try.prog 28 #[.slice a n cap] w fun e w' => ∃ v, e = .returned v ∧ OwnB w.heap.size w' v (bitsN (valN l) (8 * n)) ∧ Below w.heap.size w w' := by
  have HN := Lib.hid hn
  have HB := Lib.hid hb
  clear hb hn
  go_enter Try.func28, Try.ntmps28
  go_wp2
  go_loopw [3, 4] (fun v i wr => ∃ k : Nat, k ≤ n ∧ i = .int .i64 k ∧ OwnB w.heap.size wr v (bitsN (valN l) (8 * k)) ∧ Below w.heap.size w wr) (fun _ i _ => n - (intOf i).toNat)
  case atStart => exact ⟨0, Nat.zero_le _, rfl, OwnB.start _ _, Below.refl _ _⟩
  case round =>
    obtain ⟨k, hk, rfl, hown, hbel⟩ := hrel
    by_cases hlt : k < n
    · obtain ⟨b, off, rfl, hcell, hbs⟩ := HB.out.at (k := k) (by have h1 := HN.out; omega)
      rw [← hbel.cell (by exact hbs)] at hcell
      have HV : Hid (∀ j, j < 8 → valN l / 2 ^ (8 * k + j) % 2 = (l.getD k 0).toNat / 2 ^ j % 2) := fun j hj => valN_bit l k j (by have h1 := HN.out; omega) hj
      have hc := (l.getD k 0).toNat_lt
      generalize (l.getD k 0).toNat = c at *
      obtain ⟨wo, hwo⟩ : ∃ wo : World, wo = wr := ⟨_, rfl⟩
      subst hwo
      go_wp2_with fail
      go_loopw [3, 5, 6] (fun v c' j wr => ∃ m : Nat, m ≤ 8 ∧ j = .int .i64 m ∧ c' = .int .u8 ((c / 2 ^ m : Nat) : Int) ∧ OwnB w.heap.size wr v (bitsN (valN l) (8 * k + m)) ∧ Below w.heap.size w wr) (fun _ _ j _ => 8 - (intOf j).toNat)
      case atStart => exact ⟨0, by omega, rfl, by simp, hown, hbel⟩
      case round =>
        obtain ⟨m, hm, rfl, rfl, hown, hbel⟩ := hrel
        by_cases hlm : m < 8
        · have hcm : c / 2 ^ m < 256 := Nat.lt_of_le_of_lt (Nat.div_le_self _ _) hc
          have HC := Lib.hid (show c / 2 ^ (m + 1) = c / 2 ^ m / 2 by rw [Nat.pow_succ, Nat.div_div_eq_div_mul])
          have HVm := Lib.hid (HV.out m hlm)
          have HS := Lib.hid (bitsN_succ (valN l) (8 * k + m))
          have hL := bitsN_length (valN l) (8 * k + m)
          have HL := Lib.hid hL
          clear hL
          generalize c / 2 ^ m = d at *
          go_wp2_with (at_builtin; refine wpList_append_u8 rfl (.tmp 21) (.tmp 24) rfl w.heap.size _ _ rfl hown _ (UInt8.ofNat (valN l / 2 ^ (8 * k + m) % 2)) ?_ rfl ?_ ?_ ?_)
          · rw [HVm.out]; simp; omega
          · rw [HL.out]; omega
          · exact hbel.size
          intro v' w1 hown1 hg
          rw [← HS.out] at hown1
          have hbel1 := hbel.trans (hown.belowOf hg hbel.size)
          clear hg hown
          go_wp2
          go_roundw
          case rel => exact ⟨m + 1, by omega, by go_num, by rw [HC.out]; go_num, hown1, hbel1⟩
          case measure => simp [intOf]; omega
        · obtain rfl : m = 8 := by omega
          go_wp2
          go_roundw
          case rel => exact ⟨k + 1, by omega, by go_num, hown, hbel⟩
          case measure => simp [intOf]; omega
    · obtain rfl : k = n := by omega
      go_wp2
      go_ret
      exact ⟨_, rfl, hown, hbel⟩
end Go.Proofs.Ytammicdgpdnihaa
