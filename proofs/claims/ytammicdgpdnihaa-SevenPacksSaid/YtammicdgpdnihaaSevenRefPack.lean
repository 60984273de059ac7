/- Walk of layer 6: the reference's Pack. -/
import Derived.Test.YtammicdgpdnihaaSevenBits
namespace Go.Proofs.Ytammicdgpdnihaa
open Go.RowKit

set_option maxRecDepth 100000 in
set_option maxHeartbeats 1000000 in
theorem refPack_any (a : Option Addr) (l : List UInt8) (n cap : Nat) (w : World) (hn : n = l.length) (hmax : n ≤ 1000000) (hb : Bs w a cap l) :
    Calls Try.prog 29 #[.slice a n cap] w fun e w' => ∃ v, e = .returned v ∧ OwnB w.heap.size w' v (packN l) ∧ Below w.heap.size w w' := by
  have HN := Lib.hid hn
  have HB := Lib.hid hb
  have HP : Hid (packN l = pk (valN l) ((8 * n + 6) / 7)) := by rw [hn]; rfl
  have HV : Hid (valN l < 2 ^ (8 * n)) := by rw [hn]; exact valN_lt l
  clear hb hn
  go_enter Try.func29, Try.ntmps29
  go_wp2_with fail
  refine (Bits_any a l n cap _ HN.out hmax HB.out).mono ?_; rintro e w1 ⟨v1, rfl, hown1, hb1⟩
  obtain ⟨a3, c3, n3, hv3, hn3, hb3, -, hblk⟩ := hown1.bsn
  rw [bitsN_length] at hn3
  rw [hv3]
  subst hn3
  have HB3 := Lib.hid hb3
  clear hv3 hb3 hown1 hblk
  generalize hVd : valN l = V at *
  have HVD := Lib.hid hVd
  clear hVd
  go_wp2
  go_loopw [4, 5] (fun v i wr => ∃ m : Nat, 7 * m < 8 * n + 7 ∧ i = .int .i64 (7 * (m : Int)) ∧ OwnB w1.heap.size wr v (pk V m) ∧ Below w1.heap.size w1 wr) (fun _ i _ => 8 * n + 7 - (intOf i).toNat)
  case atStart => exact ⟨0, by omega, rfl, OwnB.start _ _, Below.refl _ _⟩
  case round =>
    obtain ⟨m, hm, rfl, hown, hbel⟩ := hrel
    by_cases hlt : 7 * m < 8 * n
    · obtain ⟨wo, hwo⟩ : ∃ wo : World, wo = wr := ⟨_, rfl⟩
      subst hwo
      have HSP := Lib.hid (pk_succ V m)
      have hpl := Lib.hid (pk_length V m)
      have hdec : decide (7 * (m : Int) < 8 * (n : Int)) = true := by simp; omega
      go_wp2_with fail
      go_loop [6, 7, 8] (fun c p k => ∃ j r P : Nat, j ≤ 7 ∧ k = .int .i64 (7 * (m : Int) + (j : Int)) ∧ p = .int .i64 (P : Int) ∧ c = .int .i64 (128 + (r : Int)) ∧ Hid (P = 2 ^ j) ∧ Hid (r = V / 2 ^ (7 * m) % 2 ^ j)) (fun _ _ k => 7 * m + 7 - (intOf k).toNat)
      case atStart => exact ⟨0, 0, 1, by omega, by go_num, rfl, rfl, rfl, (Nat.mod_one _).symm⟩
      case round =>
        obtain ⟨j, r, P, hj, rfl, rfl, rfl, HPD, HRD⟩ := hrel
        have hP : P ≤ 128 := by rw [HPD.out]; exact Nat.pow_le_pow_right (by omega) hj
        have hr : r < P := by rw [HRD.out, HPD.out]; exact Nat.mod_lt _ (Nat.two_pow_pos j)
        have HC : Hid (V / 2 ^ (7 * m) % 2 ^ (j + 1) = r + P * (V / 2 ^ (7 * m + j) % 2)) := by
          have h1 := mod_pow_succ (V / 2 ^ (7 * m)) j
          rw [Nat.div_div_eq_div_mul, ← Nat.pow_add, ← HRD.out, ← HPD.out] at h1
          exact h1
        have HPS : Hid (P * 2 = 2 ^ (j + 1)) := by show _ = _; rw [HPD.out, Nat.pow_succ]
        have HBIT := Lib.hid (bitsN_getD V (8 * n) (7 * m + j))
        have HZ : Hid (8 * n ≤ 7 * m + j → V / 2 ^ (7 * m + j) % 2 = 0) := fun h => by
          rw [Nat.div_eq_of_lt (Nat.lt_of_lt_of_le HV.out (Nat.pow_le_pow_right (by omega) h))]
        by_cases hlj : j < 7
        · by_cases hin : 7 * m + j < 8 * n
          · obtain ⟨b, off, rfl, hcell, hbs⟩ := HB3.out.at (k := 7 * m + j) (by rw [bitsN_length]; omega)
            rw [← hbel.cell (by exact hbs), HBIT.out hin] at hcell
            have hbit : V / 2 ^ (7 * m + j) % 2 < 2 := Nat.mod_lt _ (by omega)
            generalize V / 2 ^ (7 * m + j) % 2 = q at *
            have hdec2 : decide (7 * (m : Int) + (j : Int) < 8 * (n : Int)) = true := by simp; omega
            by_cases hq : q = 1
            · subst hq
              go_wp2
              go_round
              case rel => exact ⟨j + 1, r + P, P * 2, by omega, by go_num, by go_num, by go_num, HPS, (HC.out.trans (by omega)).symm⟩
              case measure => simp [intOf]; omega
            · have hq0 : q = 0 := by omega
              subst hq0
              clear hq
              go_wp2
              go_round
              case rel => exact ⟨j + 1, r, P * 2, by omega, by go_num, by go_num, by go_num, HPS, (HC.out.trans (by omega)).symm⟩
              case measure => simp [intOf]; omega
          · have HZ' := Lib.hid (HZ.out (by omega))
            rw [HZ'.out] at HC
            go_wp2
            go_round
            case rel => exact ⟨j + 1, r, P * 2, by omega, by go_num, by go_num, by go_num, HPS, (HC.out.trans (by omega)).symm⟩
            case measure => simp [intOf]; omega
        · obtain rfl : j = 7 := by omega
          have HD : Hid ((128 + (r : Int)) = ((UInt8.ofNat (V / 128 ^ m % 128 + 128)).toNat : Int)) := by show _ = _; rw [pow128, show (128 : Nat) = 2 ^ 7 from rfl, ← HRD.out]; simp; omega
          generalize UInt8.ofNat (V / 128 ^ m % 128 + 128) = d at *
          have hr128 : r < 128 := by omega
          clear HPD HRD HC HPS HBIT HZ
          go_wp2_with (at_builtin; refine wpList_append_u8 rfl (.tmp 40) (.tmp 43) rfl w1.heap.size _ _ rfl hown _ d ?_ rfl ?_ ?_ ?_)
          · exact HD.out
          · rw [hpl.out]; omega
          · exact hbel.size
          intro v' w2 hown2 hg
          rw [← HSP.out] at hown2
          have hbel2 := hbel.trans (hown.belowOf hg hbel.size)
          clear hg hown
          go_wp2
          go_roundw
          case rel => exact ⟨m + 1, by omega, by go_num, hown2, hbel2⟩
          case measure => simp [intOf]; omega
    · have HM : Hid ((8 * n + 6) / 7 = m) := by show _ = _; omega
      go_wp2
      go_ret
      refine ⟨_, rfl, ?_, hb1.trans (hbel.mono hb1.size)⟩
      rw [HP.out, HM.out]
      exact hown.rebase (fun g hg => Nat.le_trans hb1.size (hown.lt g hg).1)
end Go.Proofs.Ytammicdgpdnihaa
